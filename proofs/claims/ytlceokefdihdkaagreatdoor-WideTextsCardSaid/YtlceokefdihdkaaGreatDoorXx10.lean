-- Written by a program of this session (xprint) out of the translation: Lean checks it.
import Derived.Test.YtlceokefdihdkaaGreatDoorXx0
import Derived.Test.YtlceokefdihdkaaGreatDoorXx1
import Derived.Test.YtlceokefdihdkaaGreatDoorXx3
import Derived.Test.YtlceokefdihdkaaGreatDoorXx4
import Derived.Test.YtlceokefdihdkaaGreatDoorXx5
import Derived.Test.YtlceokefdihdkaaGreatDoorXx6
import Derived.Test.YtlceokefdihdkaaGreatDoorXx7
import Derived.Test.YtlceokefdihdkaaGreatDoorXx9
import Derived.Test.YtlceokefdihdkaaGreatDoorExs
namespace Go.Proofs.YtlceokefdihdkaaGreatDoor.X
open Go.RowKit Go.Proofs.YtlceokefdihdkaaGreatDoorW.PrintWords Go.Proofs.YtlceokefdihdkaaGreatDoorW.PrintLast Go.Proofs.YtlceokefdihdkaaGreatDoorW.PrintMore
attribute [local go_sem] max2_int min2_int max_two min_two max_three min_three max_four min_four   -- for this text's walks alone
set_option linter.unusedVariables false
set_option linter.unusedSimpArgs false

/-! ### worldmintlaw05_WideTexts: function 3 -/
def worldmintlaw05_WideTexts.l0 : Nat → List ByteArray → Int → Option (Bool)
 | 0, _, _ => none
 | k + 1, x11, x12 => if x12 < (x11.length : Int) then (if 0 ≤ x12 then ((wide_Parse.f k (rdOf ByteArray.empty x11 x12)).bind fun bt462 => ((worldmintref05_Parse.f k (rdOf ByteArray.empty x11 x12)).bind fun bt469 => (if bt462.2.2 = bt469.2.2 then ((worldmintlaw05_equal.f k bt462.1 bt462.2.1 bt469.1 bt469.2.1).bind fun t475 => (if t475 = true then (if bt462.2.2 = 0 then ((wide_Int_String.f bt462.1 bt462.2.1).bind fun t476 => (if t476.toList = (rdOf ByteArray.empty x11 x12).toList then (worldmintlaw05_WideTexts.l0 k x11 (wrap64 (x12 + 1))) else (some false))) else (worldmintlaw05_WideTexts.l0 k x11 (wrap64 (x12 + 1)))) else (some false))) else (some false)))) else (none)) else ((worldmintlaw05_lives.f k).bind fun t460 => (some t460))
def worldmintlaw05_WideTexts.f (k : Nat) (a0 : ByteArray) (l1 : List Int) (a2 : Int) (a3 : Int) : Option (Bool) := (worldmintref05_Number.f k l1 0).bind fun bt447 => ((worldmintref05_Text.f k bt447.1 bt447.2).bind fun t451 => ((worldmintref01_Around.f a2 (t451.size : Int)).bind fun t452 => ((worldmintref01_Short.f a0 30).bind fun t453 => (if 0 ≤ t452 then (if t452 ≤ (t451.size : Int) then ((some (([a3] : List Int) : List Int)).bind fun y454 => (if (t451.extract 0 (t452 : Int).toNat).size + (strOfNums y454).size ≤ 9223372036854775807 then (if 0 ≤ (wrap64 (t452 + 1)) then (if (wrap64 (t452 + 1)) ≤ (t451.size : Int) then (if (t451.extract 0 (t452 : Int).toNat).size + (strOfNums y454).size + (t451.extract ((wrap64 (t452 + 1)) : Int).toNat t451.size).size ≤ 9223372036854775807 then (if t451.size + t451.size ≤ 9223372036854775807 then (worldmintlaw05_WideTexts.l0 k (([t453, t451, ((t451.extract 0 (t452 : Int).toNat) ++ (strOfNums y454)) ++ (t451.extract ((wrap64 (t452 + 1)) : Int).toNat t451.size), t451.extract 0 (t452 : Int).toNat, t451 ++ t451] : List ByteArray)) 0) else (none)) else (none)) else (none)) else (none)) else (none))) else (none)) else (none)))))
theorem worldmintlaw05_WideTexts.mono_l : ∀ k, (∀ y0 y1, LeO (worldmintlaw05_WideTexts.l0 k y0 y1) (worldmintlaw05_WideTexts.l0 (k + 1) y0 y1))
 | 0 => fun _ _ r h => by simp [worldmintlaw05_WideTexts.l0] at h
 | k + 1 => by
  have ih0 := worldmintlaw05_WideTexts.mono_l k
  ·intro y0 y1
   unfold worldmintlaw05_WideTexts.l0
   repeat' first
   | (with_reducible exact ih0 _ _)
   | (with_reducible exact wide_Parse.mono _ _)
   | (with_reducible exact worldmintlaw05_equal.mono _ _ _ _ _)
   | (with_reducible exact worldmintlaw05_lives.mono _)
   | (with_reducible exact worldmintref05_Number.mono _ _ _)
   | (with_reducible exact worldmintref05_Parse.mono _ _)
   | (with_reducible exact worldmintref05_Text.mono _ _ _)
   | (with_reducible exact LeO.refl _)
   | (with_reducible exact LeO.none _)
   | (with_reducible refine LeO.ite ?_ ?_)
   | (with_reducible refine LeO.bind ?_ (fun _ => ?_))
   | exact ih0 _ _
   | exact wide_Parse.mono _ _
   | exact worldmintlaw05_equal.mono _ _ _ _ _
   | exact worldmintlaw05_lives.mono _
   | exact worldmintref05_Number.mono _ _ _
   | exact worldmintref05_Parse.mono _ _
   | exact worldmintref05_Text.mono _ _ _
   | exact LeO.none _
   | refine LeO.ite ?_ ?_
   | refine LeO.bind ?_ (fun _ => ?_)
theorem worldmintlaw05_WideTexts.mono : ∀ a0 a1 a2 a3 k, LeO (worldmintlaw05_WideTexts.f k a0 a1 a2 a3) (worldmintlaw05_WideTexts.f (k + 1) a0 a1 a2 a3) := by
 intro a0 a1 a2 a3 k
 have ih0 := worldmintlaw05_WideTexts.mono_l k
 unfold worldmintlaw05_WideTexts.f
 repeat' first
   | (with_reducible exact ih0 _ _)
   | (with_reducible exact wide_Parse.mono _ _)
   | (with_reducible exact worldmintlaw05_equal.mono _ _ _ _ _)
   | (with_reducible exact worldmintlaw05_lives.mono _)
   | (with_reducible exact worldmintref05_Number.mono _ _ _)
   | (with_reducible exact worldmintref05_Parse.mono _ _)
   | (with_reducible exact worldmintref05_Text.mono _ _ _)
   | (with_reducible exact LeO.refl _)
   | (with_reducible exact LeO.none _)
   | (with_reducible refine LeO.ite ?_ ?_)
   | (with_reducible refine LeO.bind ?_ (fun _ => ?_))
   | exact ih0 _ _
   | exact wide_Parse.mono _ _
   | exact worldmintlaw05_equal.mono _ _ _ _ _
   | exact worldmintlaw05_lives.mono _
   | exact worldmintref05_Number.mono _ _ _
   | exact worldmintref05_Parse.mono _ _
   | exact worldmintref05_Text.mono _ _ _
   | exact LeO.none _
   | refine LeO.ite ?_ ?_
   | refine LeO.bind ?_ (fun _ => ?_)
def worldmintlaw05_WideTexts.T3 : Bool × List (List Nat × List Nat) := (true, [([], []), ([0], [0]), ([], []), ([], []), ([], []), ([3, 4], [3, 4]), ([], []), ([6], [6]), ([7], [7]), ([5, 8], [5, 8]), ([], []), ([], []), ([11], [11]), ([10, 12], [10, 12]), ([9, 13], [9, 13]), ([], []), ([], []), ([15, 16], [15, 16]), ([], []), ([], []), ([18, 19], [18, 19]), ([1, 2, 14, 17, 20], [1, 2, 14, 17, 20]), ([21, 1, 0, 1, 2, 3, 4, 5, 6, 7, 8, 9, 10, 11, 12, 13, 14, 15, 16, 17, 18, 19, 20, 21], [21])])
def worldmintlaw05_WideTexts.B3 : List Nat := [0, 1, 0, 0, 0, 24, 0, 64, 192, 504, 0, 0, 2048, 7168, 16376, 0, 0, 98304, 0, 0, 786432, 2097151, 4194303]
theorem worldmintlaw05_WideTexts.tab3 : rtab .any (opsOf Tryz.f3 3) = worldmintlaw05_WideTexts.T3 := by kernel_rfl
theorem worldmintlaw05_WideTexts.bits3 : waitsOk worldmintlaw05_WideTexts.T3.2 worldmintlaw05_WideTexts.B3 = true := by kernel_rfl
def worldmintlaw05_WideTexts.T9 : Bool × List (List Nat × List Nat) := (true, [([], []), ([], []), ([0, 1], [0, 1]), ([2], [2]), ([3], [3]), ([3], [3]), ([4, 5, 3, 3], [3, 4, 5]), ([6, 3], [3, 6]), ([3, 7], [3, 7]), ([8, 6], [8]), ([9], [9]), ([10, 9], [9, 10]), ([11, 9, 9], [9, 11]), ([12], [12]), ([13, 12, 12], [12, 13]), ([12], [12]), ([12], [12]), ([15, 16, 12], [12, 15, 16]), ([17, 12], [12, 17]), ([14, 18, 12], [12, 14, 18]), ([12, 19, 9], [9, 12, 19]), ([9, 20], [9, 20])])
def worldmintlaw05_WideTexts.B9 : List Nat := [0, 0, 3, 7, 15, 15, 63, 127, 255, 511, 1023, 2047, 4095, 8191, 16383, 8191, 8191, 106495, 237567, 524287, 1048575, 2097151]
theorem worldmintlaw05_WideTexts.tab9 : rtab .any (opsOf Tryz.f3 9) = worldmintlaw05_WideTexts.T9 := by kernel_rfl
theorem worldmintlaw05_WideTexts.bits9 : waitsOk worldmintlaw05_WideTexts.T9.2 worldmintlaw05_WideTexts.B9 = true := by kernel_rfl
set_option maxHeartbeats 8000000 in
set_option maxRecDepth 100000 in
theorem worldmintlaw05_WideTexts.calls (k : Nat) (a0 : ByteArray) (A1 : Option Addr) (c1 : Nat) (l1 : List Int) (a2 : Int) (a3 : Int) (r : Bool) (w : World) (hr1 : Kd.C (Kd.int .i64) w A1 l1.length l1) (hc1 : l1.length ≤ c1) (h : worldmintlaw05_WideTexts.f k a0 l1 a2 a3 = some r) (hG : GOK w) (hT_ : r = true) :
  Calls Tryz.prog 3 #[.string a0, .slice A1 l1.length c1, .int .i64 a2, .int .u8 a3] w fun e w' => e = .returned (.bool r) ∧ Below w.heap.size w w' := by
 have hu33 := Tryz.underlying33
 have hu25 := Tryz.underlying25
 have HR1 := am_ hr1
 have HC1 := am_ hc1
 clear hr1 hc1
 have HB := am_ (Below.refl w.heap.size w)
 have H : ((worldmintref05_Number.f k l1 0).bind fun bt447 => ((worldmintref05_Text.f k bt447.1 bt447.2).bind fun t451 => ((worldmintref01_Around.f a2 (t451.size : Int)).bind fun t452 => ((worldmintref01_Short.f a0 30).bind fun t453 => (if 0 ≤ t452 then (if t452 ≤ (t451.size : Int) then ((some (([a3] : List Int) : List Int)).bind fun y454 => (if (t451.extract 0 (t452 : Int).toNat).size + (strOfNums y454).size ≤ 9223372036854775807 then (if 0 ≤ (wrap64 (t452 + 1)) then (if (wrap64 (t452 + 1)) ≤ (t451.size : Int) then (if (t451.extract 0 (t452 : Int).toNat).size + (strOfNums y454).size + (t451.extract ((wrap64 (t452 + 1)) : Int).toNat t451.size).size ≤ 9223372036854775807 then (if t451.size + t451.size ≤ 9223372036854775807 then (worldmintlaw05_WideTexts.l0 k (([t453, t451, ((t451.extract 0 (t452 : Int).toNat) ++ (strOfNums y454)) ++ (t451.extract ((wrap64 (t452 + 1)) : Int).toNat t451.size), t451.extract 0 (t452 : Int).toNat, t451 ++ t451] : List ByteArray)) 0) else (none)) else (none)) else (none)) else (none)) else (none))) else (none)) else (none)))))) = some r := h
 clear h
 replace H := Option.bind_eq_some_iff.mp H
 obtain ⟨⟨t447, t448⟩, A50, H⟩ := H
 replace H : ((worldmintref05_Text.f k t447 t448).bind fun t451 => ((worldmintref01_Around.f a2 (t451.size : Int)).bind fun t452 => ((worldmintref01_Short.f a0 30).bind fun t453 => (if 0 ≤ t452 then (if t452 ≤ (t451.size : Int) then ((some (([a3] : List Int) : List Int)).bind fun y454 => (if (t451.extract 0 (t452 : Int).toNat).size + (strOfNums y454).size ≤ 9223372036854775807 then (if 0 ≤ (wrap64 (t452 + 1)) then (if (wrap64 (t452 + 1)) ≤ (t451.size : Int) then (if (t451.extract 0 (t452 : Int).toNat).size + (strOfNums y454).size + (t451.extract ((wrap64 (t452 + 1)) : Int).toNat t451.size).size ≤ 9223372036854775807 then (if t451.size + t451.size ≤ 9223372036854775807 then (worldmintlaw05_WideTexts.l0 k (([t453, t451, ((t451.extract 0 (t452 : Int).toNat) ++ (strOfNums y454)) ++ (t451.extract ((wrap64 (t452 + 1)) : Int).toNat t451.size), t451.extract 0 (t452 : Int).toNat, t451 ++ t451] : List ByteArray)) 0) else (none)) else (none)) else (none)) else (none)) else (none))) else (none)) else (none))))) = some r := H
 have A5 := am_ A50
 clear A50
 replace H := Option.bind_eq_some_iff.mp H
 obtain ⟨t451, A60, H⟩ := H
 replace H : ((worldmintref01_Around.f a2 (t451.size : Int)).bind fun t452 => ((worldmintref01_Short.f a0 30).bind fun t453 => (if 0 ≤ t452 then (if t452 ≤ (t451.size : Int) then ((some (([a3] : List Int) : List Int)).bind fun y454 => (if (t451.extract 0 (t452 : Int).toNat).size + (strOfNums y454).size ≤ 9223372036854775807 then (if 0 ≤ (wrap64 (t452 + 1)) then (if (wrap64 (t452 + 1)) ≤ (t451.size : Int) then (if (t451.extract 0 (t452 : Int).toNat).size + (strOfNums y454).size + (t451.extract ((wrap64 (t452 + 1)) : Int).toNat t451.size).size ≤ 9223372036854775807 then (if t451.size + t451.size ≤ 9223372036854775807 then (worldmintlaw05_WideTexts.l0 k (([t453, t451, ((t451.extract 0 (t452 : Int).toNat) ++ (strOfNums y454)) ++ (t451.extract ((wrap64 (t452 + 1)) : Int).toNat t451.size), t451.extract 0 (t452 : Int).toNat, t451 ++ t451] : List ByteArray)) 0) else (none)) else (none)) else (none)) else (none)) else (none))) else (none)) else (none)))) = some r := H
 have A6 := am_ A60
 clear A60
 replace H := Option.bind_eq_some_iff.mp H
 obtain ⟨t452, A70, H⟩ := H
 replace H : ((worldmintref01_Short.f a0 30).bind fun t453 => (if 0 ≤ t452 then (if t452 ≤ (t451.size : Int) then ((some (([a3] : List Int) : List Int)).bind fun y454 => (if (t451.extract 0 (t452 : Int).toNat).size + (strOfNums y454).size ≤ 9223372036854775807 then (if 0 ≤ (wrap64 (t452 + 1)) then (if (wrap64 (t452 + 1)) ≤ (t451.size : Int) then (if (t451.extract 0 (t452 : Int).toNat).size + (strOfNums y454).size + (t451.extract ((wrap64 (t452 + 1)) : Int).toNat t451.size).size ≤ 9223372036854775807 then (if t451.size + t451.size ≤ 9223372036854775807 then (worldmintlaw05_WideTexts.l0 k (([t453, t451, ((t451.extract 0 (t452 : Int).toNat) ++ (strOfNums y454)) ++ (t451.extract ((wrap64 (t452 + 1)) : Int).toNat t451.size), t451.extract 0 (t452 : Int).toNat, t451 ++ t451] : List ByteArray)) 0) else (none)) else (none)) else (none)) else (none)) else (none))) else (none)) else (none))) = some r := H
 have A7 := am_ A70
 clear A70
 replace H := Option.bind_eq_some_iff.mp H
 obtain ⟨t453, A80, H⟩ := H
 replace H : (if 0 ≤ t452 then (if t452 ≤ (t451.size : Int) then ((some (([a3] : List Int) : List Int)).bind fun y454 => (if (t451.extract 0 (t452 : Int).toNat).size + (strOfNums y454).size ≤ 9223372036854775807 then (if 0 ≤ (wrap64 (t452 + 1)) then (if (wrap64 (t452 + 1)) ≤ (t451.size : Int) then (if (t451.extract 0 (t452 : Int).toNat).size + (strOfNums y454).size + (t451.extract ((wrap64 (t452 + 1)) : Int).toNat t451.size).size ≤ 9223372036854775807 then (if t451.size + t451.size ≤ 9223372036854775807 then (worldmintlaw05_WideTexts.l0 k (([t453, t451, ((t451.extract 0 (t452 : Int).toNat) ++ (strOfNums y454)) ++ (t451.extract ((wrap64 (t452 + 1)) : Int).toNat t451.size), t451.extract 0 (t452 : Int).toNat, t451 ++ t451] : List ByteArray)) 0) else (none)) else (none)) else (none)) else (none)) else (none))) else (none)) else (none)) = some r := H
 have A8 := am_ A80
 clear A80
 by_cases c9 : 0 ≤ t452
 ·rw [if_pos c9] at H
  have c9b0 := eq_true c9
  have c9b1 : decide (0 ≤ t452) = true := decide_eq_true c9
  clear c9
  by_cases c10 : t452 ≤ (t451.size : Int)
  ·rw [if_pos c10] at H
   have c10b0 := eq_true c10
   have c10b1 : decide (t452 ≤ (t451.size : Int)) = true := decide_eq_true c10
   clear c10
   obtain ⟨y454, hy454⟩ : ∃ y_ : List Int, y_ = (([a3] : List Int)) := ⟨_, rfl⟩
   replace H : (if (t451.extract 0 (t452 : Int).toNat).size + (strOfNums y454).size ≤ 9223372036854775807 then (if 0 ≤ (wrap64 (t452 + 1)) then (if (wrap64 (t452 + 1)) ≤ (t451.size : Int) then (if (t451.extract 0 (t452 : Int).toNat).size + (strOfNums y454).size + (t451.extract ((wrap64 (t452 + 1)) : Int).toNat t451.size).size ≤ 9223372036854775807 then (if t451.size + t451.size ≤ 9223372036854775807 then (worldmintlaw05_WideTexts.l0 k (([t453, t451, ((t451.extract 0 (t452 : Int).toNat) ++ (strOfNums y454)) ++ (t451.extract ((wrap64 (t452 + 1)) : Int).toNat t451.size), t451.extract 0 (t452 : Int).toNat, t451 ++ t451] : List ByteArray)) 0) else (none)) else (none)) else (none)) else (none)) else (none)) = some r := by first | (rw [hy454]; with_reducible exact H) | (have H2_ := (Option.bind_some _ _).symm.trans H; rw [hy454]; with_reducible exact H2_) | (have H2_ := (Option.bind_some _ _).symm.trans H; with_reducible exact H2_) | with_reducible exact H | (rw [hy454]; exact H) | exact H
   have Ny454 := am_ hy454
   clear hy454
   by_cases c11 : (t451.extract 0 (t452 : Int).toNat).size + (strOfNums y454).size ≤ 9223372036854775807
   ·rw [if_pos c11] at H
    have c11b0 := eq_true c11
    have c11b1 : decide ((t451.extract 0 (t452 : Int).toNat).size + (strOfNums y454).size ≤ 9223372036854775807) = true := decide_eq_true c11
    try have c11b2 : (9223372036854775807 < (t451.extract 0 (t452 : Int).toNat).size + (strOfNums y454).size) = False := eq_false (Nat.not_lt.2 c11)
    try (have c11b5 : (9223372036854775807 < (t452 : Int).toNat + (strOfNums y454).size) = False := eq_false (by have h_ := c11; simp only [ByteArray.size_extract, ByteArray.size_append, Nat.sub_zero] at h_; (first | omega | (simp only [decide_eq_true_eq] at *; omega))))
    obtain ⟨ji12, hji12⟩ : ∃ j_ : Int, (wrap64 (t452 + 1)) = j_ := ⟨_, rfl⟩
    replace H : (if 0 ≤ (ji12) then (if (ji12) ≤ (t451.size : Int) then (if (t451.extract 0 (t452 : Int).toNat).size + (strOfNums y454).size + (t451.extract ((ji12) : Int).toNat t451.size).size ≤ 9223372036854775807 then (if t451.size + t451.size ≤ 9223372036854775807 then (worldmintlaw05_WideTexts.l0 k (([t453, t451, ((t451.extract 0 (t452 : Int).toNat) ++ (strOfNums y454)) ++ (t451.extract ((ji12) : Int).toNat t451.size), t451.extract 0 (t452 : Int).toNat, t451 ++ t451] : List ByteArray)) 0) else (none)) else (none)) else (none)) else (none)) = some r := by first | (rw [hji12] at H; exact H) | (simp only [hji12] at H ⊢; exact H)
    (try rw [hji12] at A5)
    (try rw [hji12] at A6)
    (try rw [hji12] at A7)
    (try rw [hji12] at A8)
    have hji12w : (IntKind.i64.wrap (t452 + 1)) = ji12 := (i64_w _).trans hji12
    by_cases c13 : 0 ≤ (ji12)
    ·rw [if_pos c13] at H
     have c13b0 := eq_true c13
     have c13b1 : decide (0 ≤ (ji12)) = true := decide_eq_true c13
     clear c13
     by_cases c14 : (ji12) ≤ (t451.size : Int)
     ·rw [if_pos c14] at H
      have c14b0 := eq_true c14
      have c14b1 : decide ((ji12) ≤ (t451.size : Int)) = true := decide_eq_true c14
      clear c14
      by_cases c15 : (t451.extract 0 (t452 : Int).toNat).size + (strOfNums y454).size + (t451.extract ((ji12) : Int).toNat t451.size).size ≤ 9223372036854775807
      ·rw [if_pos c15] at H
       have c15b0 := eq_true c15
       have c15b1 : decide ((t451.extract 0 (t452 : Int).toNat).size + (strOfNums y454).size + (t451.extract ((ji12) : Int).toNat t451.size).size ≤ 9223372036854775807) = true := decide_eq_true c15
       try have c15b2 : (9223372036854775807 < (t451.extract 0 (t452 : Int).toNat).size + (strOfNums y454).size + (t451.extract ((ji12) : Int).toNat t451.size).size) = False := eq_false (Nat.not_lt.2 c15)
       try (have c15b5 : (9223372036854775807 < (t452 : Int).toNat + (strOfNums y454).size + (t451.size - ((ji12) : Int).toNat)) = False := eq_false (by have h_ := c15; simp only [ByteArray.size_extract, ByteArray.size_append, Nat.sub_zero] at h_; (first | omega | (simp only [decide_eq_true_eq] at *; omega))))
       have c16b0 := eq_true (of_decide_eq_true zq3 : 0 ≤ t452)
       have c17b0 := eq_true (of_decide_eq_true zq3 : t452 ≤ (t451.size : Int))
       by_cases c18 : t451.size + t451.size ≤ 9223372036854775807
       ·rw [if_pos c18] at H
        have c18b0 := eq_true c18
        have c18b1 : decide (t451.size + t451.size ≤ 9223372036854775807) = true := decide_eq_true c18
        try have c18b2 : (9223372036854775807 < t451.size + t451.size) = False := eq_false (Nat.not_lt.2 c18)
        obtain ⟨y457, hy457⟩ : ∃ y_ : List ByteArray, y_ = (([t453, t451, ((t451.extract 0 (t452 : Int).toNat) ++ (strOfNums y454)) ++ (t451.extract ((ji12) : Int).toNat t451.size), t451.extract 0 (t452 : Int).toNat, t451 ++ t451] : List ByteArray)) := ⟨_, rfl⟩
        replace H : (worldmintlaw05_WideTexts.l0 k y457 0) = some r := by first | (rw [hy457]; with_reducible exact H) | (have H2_ := (Option.bind_some _ _).symm.trans H; rw [hy457]; with_reducible exact H2_) | (have H2_ := (Option.bind_some _ _).symm.trans H; with_reducible exact H2_) | with_reducible exact H | (rw [hy457]; exact H) | exact H
        have Ny457 := am_ hy457
        clear hy457
        have H' := am_ H
        clear H
        go_enter Tryz.func3, Tryz.ntmps3
        try go_wp2_with (first | ((with_reducible refine gate_callee (f := 13) rfl ?_); refine goesL_ (some 18) rfl rfl Tryz.func13 (by kernel_rfl) rfl #[.slice A1 l1.length c1, .int .i64 0] rfl zq4 ?_; (with_reducible refine (worldmintref05_Number.calls k _ _ l1 0 t447 t448 _ ?side1 ?side2 A5.out).mono ?_); (case side1 => repeat (first | exact HR1.out | (with_reducible refine Kd.C_alloc ?_ _) | (with_reducible refine Kd.C_drewN ?_ _) | (with_reducible refine Kd.C_drew ?_))); (case side2 => exact HC1.out); rintro e w19 ⟨v449, rfl, ho0, hb⟩; refine ⟨_, rfl, ?_⟩; have HO450 := am_ (Kd.V_lower (Kd.V_mono (ok' := fun k_ => True) ho0 (fun k_ hk_ => trivial)) (below_size zq2)); replace HB := am_ (below_step zq2 hb); (try clear hb); (try clear ho0); obtain ⟨Ao20, co20, eo20⟩ := Kd.V_slice HO450.out; subst eo20) | ((with_reducible refine gate_callee (f := 12) rfl ?_); refine goesL_ (some 19) rfl rfl Tryz.func12 (by kernel_rfl) rfl #[.agg #[.bool t447, .slice Ao20 t448.length co20]] rfl zq4 ?_; (with_reducible refine (worldmintref05_Text.calls k t447 _ _ t448 t451 _ ?side1 ?side2 A6.out).mono ?_); (case side1 => exact (zq31 HO450.out)); (case side2 => exact (Kd.V_reads' HO450.out).2.1); rintro e w21 ⟨rfl, hb⟩; refine ⟨_, rfl, ?_⟩; replace HO450 := am_ (Kd.V_below (zq5 HO450.out) hb); replace HB := am_ (below_step zq2 hb); (try clear hb)) | ((with_reducible refine gate_callee (f := 14) rfl ?_); refine goesL_ (some 23) rfl rfl Tryz.func14 (by kernel_rfl) rfl #[.int .i64 a2, .int .i64 (t451.size : Int)] rfl zq4 ?_; (with_reducible refine (worldmintref01_Around.calls a2 (t451.size : Int) t452 _ A7.out).mono ?_); rintro e w' ⟨rfl, ⟨nd, rfl⟩⟩; refine ⟨_, rfl, ?_⟩))
        (try (rw [drewN_self w21]; generalize hq_ : World.drewN w21 _ = w21; have n0_ : Aside0 (Kd.V (Kd.int .i64) 3 w21 w.heap.size (fun _ => True) (.slice Ao20 t448.length co20) t448) := ⟨by rw [← hq_]; exact (zq5 HO450.out)⟩; have n1_ : Aside0 (Below w.heap.size w w21) := ⟨by rw [← hq_]; exact zq2⟩; clear HO450 HB hq_; have HO450 := n0_; have HB := n1_; clear n0_ n1_))
        replace HO450 := am_ (Kd.V_drew HO450.out); replace HB := am_ (below_drew1 HB.out)
        refine start_ (n := 23) (S := fun w' => True) (ds := []) #[false, false, false, false, false, false, false, false, false, false, false, false, false, false, false, false, false, false, false, false, false, false, false] (by kernel_rfl) rfl rfl trivial (fun hHeld => ?_); refine with_tabW worldmintlaw05_WideTexts.tab3 worldmintlaw05_WideTexts.bits3 (fun HT_ HW_ => ?_)
        generalize w21.drew = w22 at HO450 HB hHeld ⊢
        refine pure_ (i := 0) (N := some 24) (v := ?_) (a' := ?_) #[true, false, false, false, false, false, false, false, false, false, false, false, false, false, false, false, false, false, false, false, false, false, false] rfl rfl (any_of HT_.out (by kernel_rfl)) (fun _ _ _ h => h) (Or.inl ⟨by rfl, ?_⟩) ?_ ?_
        rotate_left
        ·intro w'
         go_simp
         with_reducible rfl
        rotate_left
        ·exact za_
        refine pure_ (i := 2) (N := some 26) (v := ?_) (a' := ?_) #[true, false, true, false, false, false, false, false, false, false, false, false, false, false, false, false, false, false, false, false, false, false, false] rfl rfl (any_of HT_.out (by kernel_rfl)) (fun _ _ _ h => h) (Or.inl ⟨by rfl, ?_⟩) ?_ ?_
        rotate_left
        ·intro w'
         go_simp
         with_reducible rfl
        rotate_left
        ·exact za_
        refine pure_ (i := 3) (N := some 27) (v := ?_) (a' := ?_) #[true, false, true, true, false, false, false, false, false, false, false, false, false, false, false, false, false, false, false, false, false, false, false] rfl rfl (any_of HT_.out (by kernel_rfl)) (fun _ _ _ h => h) (Or.inl ⟨by rfl, ?_⟩) ?_ ?_
        rotate_left
        ·intro w'
         go_simp
         with_reducible rfl
        rotate_left
        ·exact za_
        refine pure_ (i := 4) (N := some 28) (v := ?_) (a' := ?_) #[true, false, true, true, true, false, false, false, false, false, false, false, false, false, false, false, false, false, false, false, false, false, false] rfl rfl (any_of HT_.out (by kernel_rfl)) (fun _ _ _ h => h) (Or.inl ⟨by rfl, ?_⟩) ?_ ?_
        rotate_left
        ·intro w'
         go_simp
         with_reducible rfl
        rotate_left
        ·exact za_
        refine pure_ (i := 5) (N := some 29) (v := ?_) (a' := ?_) #[true, false, true, true, true, true, false, false, false, false, false, false, false, false, false, false, false, false, false, false, false, false, false] rfl rfl (any_of HT_.out (by kernel_rfl)) (fun _ _ _ h => h) (Or.inl ⟨by rfl, ?_⟩) ?_ ?_
        rotate_left
        ·intro w'
         go_simp
         with_reducible rfl
        rotate_left
        ·exact za_
        refine pure_ (i := 6) (N := some 30) (v := ?_) (a' := ?_) #[true, false, true, true, true, true, true, false, false, false, false, false, false, false, false, false, false, false, false, false, false, false, false] rfl rfl (any_of HT_.out (by kernel_rfl)) (fun _ _ _ h => h) (Or.inl ⟨by rfl, ?_⟩) ?_ ?_
        rotate_left
        ·intro w'
         go_simp
         with_reducible rfl
        rotate_left
        ·exact za_
        refine pure_ (i := 10) (N := some 34) (v := ?_) (a' := ?_) #[true, false, true, true, true, true, true, false, false, false, true, false, false, false, false, false, false, false, false, false, false, false, false] rfl rfl (any_of HT_.out (by kernel_rfl)) (fun _ _ _ h => h) (Or.inl ⟨by rfl, ?_⟩) ?_ ?_
        rotate_left
        ·intro w'
         go_simp
         with_reducible rfl
        rotate_left
        ·exact za_
        refine pure_ (i := 11) (N := some 35) (v := ?_) (a' := ?_) #[true, false, true, true, true, true, true, false, false, false, true, true, false, false, false, false, false, false, false, false, false, false, false] rfl rfl (any_of HT_.out (by kernel_rfl)) (fun _ _ _ h => h) (Or.inl ⟨by rfl, ?_⟩) ?_ ?_
        rotate_left
        ·intro w'
         go_simp
         with_reducible rfl
        rotate_left
        ·exact za_
        refine pure_ (i := 12) (N := some 36) (v := ?_) (a' := ?_) #[true, false, true, true, true, true, true, false, false, false, true, true, true, false, false, false, false, false, false, false, false, false, false] rfl rfl (any_of HT_.out (by kernel_rfl)) (fun _ _ _ h => h) (Or.inl ⟨by rfl, ?_⟩) ?_ ?_
        rotate_left
        ·intro w'
         go_simp
         with_reducible rfl
        rotate_left
        ·exact za_
        refine pure_ (i := 13) (N := some 37) (v := ?_) (a' := ?_) #[true, false, true, true, true, true, true, false, false, false, true, true, true, true, false, false, false, false, false, false, false, false, false] rfl rfl (any_of HT_.out (by kernel_rfl)) (fun _ _ _ h => h) (Or.inl ⟨by rfl, ?_⟩) ?_ ?_
        rotate_left
        ·intro w'
         go_simp
         with_reducible rfl
        rotate_left
        ·exact za_
        refine pure_ (i := 15) (N := some 39) (v := ?_) (a' := ?_) #[true, false, true, true, true, true, true, false, false, false, true, true, true, true, false, true, false, false, false, false, false, false, false] rfl rfl (any_of HT_.out (by kernel_rfl)) (fun _ _ _ h => h) (Or.inl ⟨by rfl, ?_⟩) ?_ ?_
        rotate_left
        ·intro w'
         go_simp
         with_reducible rfl
        rotate_left
        ·exact za_
        refine pure_ (i := 16) (N := some 40) (v := ?_) (a' := ?_) #[true, false, true, true, true, true, true, false, false, false, true, true, true, true, false, true, true, false, false, false, false, false, false] rfl rfl (any_of HT_.out (by kernel_rfl)) (fun _ _ _ h => h) (Or.inl ⟨by rfl, ?_⟩) ?_ ?_
        rotate_left
        ·intro w'
         go_simp
         with_reducible rfl
        rotate_left
        ·exact za_
        refine pure_ (i := 17) (N := some 41) (v := ?_) (a' := ?_) #[true, false, true, true, true, true, true, false, false, false, true, true, true, true, false, true, true, true, false, false, false, false, false] rfl rfl (any_of HT_.out (by kernel_rfl)) (fun _ _ _ h => h) (Or.inl ⟨by rfl, ?_⟩) ?_ ?_
        rotate_left
        ·intro w'
         go_simp
         with_reducible rfl
        rotate_left
        ·exact za_
        refine pure_ (i := 18) (N := some 42) (v := ?_) (a' := ?_) #[true, false, true, true, true, true, true, false, false, false, true, true, true, true, false, true, true, true, true, false, false, false, false] rfl rfl (any_of HT_.out (by kernel_rfl)) (fun _ _ _ h => h) (Or.inl ⟨by rfl, ?_⟩) ?_ ?_
        rotate_left
        ·intro w'
         go_simp
         with_reducible rfl
        rotate_left
        ·exact za_
        refine pure_ (i := 19) (N := some 43) (v := ?_) (a' := ?_) #[true, false, true, true, true, true, true, false, false, false, true, true, true, true, false, true, true, true, true, true, false, false, false] rfl rfl (any_of HT_.out (by kernel_rfl)) (fun _ _ _ h => h) (Or.inl ⟨by rfl, ?_⟩) ?_ ?_
        rotate_left
        ·intro w'
         go_simp
         with_reducible rfl
        rotate_left
        ·exact za_
        refine pure_ (i := 20) (N := some 44) (v := ?_) (a' := ?_) #[true, false, true, true, true, true, true, false, false, false, true, true, true, true, false, true, true, true, true, true, true, false, false] rfl rfl (any_of HT_.out (by kernel_rfl)) (fun _ _ _ h => h) (Or.inl ⟨by rfl, ?_⟩) ?_ ?_
        rotate_left
        ·intro w'
         go_simp
         with_reducible rfl
        rotate_left
        ·exact za_
        refine join_ (σ := Value) 2 #[true, true, true, true, true, true, true, true, true, true, true, true, true, true, true, true, true, true, true, true, true, false, false] (fun s_ => [(25, .string t453), (31, s_), (32, .string (strOfNums y454)), (33, .string ((t451.extract 0 (t452 : Int).toNat) ++ (strOfNums y454))), (38, .string (((t451.extract 0 (t452 : Int).toNat) ++ (strOfNums y454)) ++ (t451.extract ((ji12) : Int).toNat t451.size)))]) (fun s_ w' => (Kd.V (Kd.int .i64) 3 w' w.heap.size (fun k_ => some k_ ≠ (s_ : Value).ownBlock) (.slice Ao20 t448.length co20) t448) ∧ (Kd.R (Kd.int .u8) 5 w' w.heap.size (fun _ => True) s_ y454) ∧ (Below w.heap.size w w')) ?_ ?_
        rotate_left
        ·intro hCont
         refine two_ (i := 1) (j := 7) (Ni := some 25) (Nj := some 31) #[true, true, true, true, true, true, true, false, false, false, true, true, true, true, false, true, true, true, true, true, true, false, false] #[true, false, true, true, true, true, true, true, false, false, true, true, true, true, false, true, true, true, true, true, true, false, false] rfl rfl rfl rfl (two_of HT_.out (by kernel_rfl)) (by decide) (by decide) (fun K hK => ?_) (fun K hK => ?_)
         ·skip
          refine goes_ Tryz.func15 (by kernel_rfl) rfl #[.string a0, .int .i64 30] (by rfl) rfl rfl zq4 ?_
          with_reducible refine (worldmintref01_Short.calls a0 30 t453 _ A8.out).mono ?_
          rintro e w' ⟨rfl, ⟨nd, rfl⟩⟩
          refine ⟨_, rfl, ?_⟩
          refine hK.out _ _ trivial (fun hHeld => ?_)
          clear hK K
          refine norm_ (a' := ?_) ?_ ?_
          rotate_left
          ·show Act.put _ (some 25) _ = _
           exact za_
          refine one_ (i := 7) (N := some 31) #[true, true, true, true, true, true, true, true, false, false, true, true, true, true, false, true, true, true, true, true, true, false, false] rfl rfl (one_of HT_.out (by kernel_rfl)) (by decide) (fun K hK => ?_)
          refine Kd.R_lit_step (Kd.int .u8) _ 5 ?hg (N := 31) ?hd (xs := ([a3] : List Int)) (inner := [.int .u8 a3]) (ok := fun _ => True) (okp := fun _ => True) ?hr ?hp (fun _ hk => hk) trivial (Below.refl _ _) (Nat.le_refl _) (by simp) ?_; (case hd => rfl); (case hg => rfl); (case hr => exact zq1); (case hp => exact zq90)
          intro v455 w23 ho24 hb hg_ hnew_
          clear hg_ hnew_
          (first | rw [← Ny454.out] at ho24 | (simp only [Int.reduceToNat] at ho24; rw [← Ny454.out] at ho24))
          replace HO450 := am_ (Kd.V_elder' (zq5 HO450.out) (Kd.R_base ho24) hb); have HO456 := am_ (Kd.R_lower ho24 (below_size zq2)); replace HB := am_ (below_step zq2 hb)
          clear hb ho24
          refine hK.out _ _ trivial (fun hHeld => ?_)
          clear hK K
          refine norm_ (a' := ?_) ?_ ?_
          rotate_left
          ·show Act.put _ (some 31) _ = _
           exact za_
          refine one_ (i := 8) (N := some 32) #[true, true, true, true, true, true, true, true, true, false, true, true, true, true, false, true, true, true, true, true, true, false, false] rfl rfl (one_of HT_.out (by kernel_rfl)) (by decide) (fun K hK => ?_)
          have hcv25n := (fun n_ => own_string (P := Tryz.prog) Tryz.underlying29 Tryz.underlying5 Tryz.underlying9 (Kd.own_of_R (Kd.R_drewN HO456.out n_))); have hcv25 := own_string (P := Tryz.prog) Tryz.underlying29 Tryz.underlying5 Tryz.underlying9 (Kd.own_of_R HO456.out)
          refine value_ (w1 := ?_) (v := ?_) (by rfl) rfl ?_ ?_
          rotate_left 2
          ·go_simp
           constructor
           ·rfl
           ·rfl
          clear hcv25 hcv25n
          refine hK.out _ _ trivial (fun hHeld => ?_)
          clear hK K
          refine norm_ (a' := ?_) ?_ ?_
          rotate_left
          ·show Act.put _ (some 32) _ = _
           exact za_
          refine pure_ (i := 9) (N := some 33) (v := ?_) (a' := ?_) #[true, true, true, true, true, true, true, true, true, true, true, true, true, true, false, true, true, true, true, true, true, false, false] rfl rfl (any_of HT_.out (by kernel_rfl)) (fun _ _ _ h => h) (Or.inl ⟨by rfl, ?_⟩) ?_ ?_
          rotate_left
          ·intro w'
           go_simp
           with_reducible rfl
          rotate_left
          ·exact za_
          refine pure_ (i := 14) (N := some 38) (v := ?_) (a' := ?_) #[true, true, true, true, true, true, true, true, true, true, true, true, true, true, true, true, true, true, true, true, true, false, false] rfl rfl (any_of HT_.out (by kernel_rfl)) (fun _ _ _ h => h) (Or.inl ⟨by rfl, ?_⟩) ?_ ?_
          rotate_left
          ·intro w'
           go_simp
           with_reducible rfl
          rotate_left
          ·exact za_
          exact norm_ zq91 (hCont (v455) _ ⟨(zq92 HO450.out), (zq7 HO456.out), zq2⟩)
         ·skip
          refine Kd.R_lit_step (Kd.int .u8) _ 5 ?hg (N := 31) ?hd (xs := ([a3] : List Int)) (inner := [.int .u8 a3]) (ok := fun _ => True) (okp := fun _ => True) ?hr ?hp (fun _ hk => hk) trivial (Below.refl _ _) (Nat.le_refl _) (by simp) ?_; (case hd => rfl); (case hg => rfl); (case hr => exact zq1); (case hp => exact zq90)
          intro v455 w23 ho24 hb hg_ hnew_
          clear hg_ hnew_
          (first | rw [← Ny454.out] at ho24 | (simp only [Int.reduceToNat] at ho24; rw [← Ny454.out] at ho24))
          replace HO450 := am_ (Kd.V_elder' (zq5 HO450.out) (Kd.R_base ho24) hb); have HO456 := am_ (Kd.R_lower ho24 (below_size zq2)); replace HB := am_ (below_step zq2 hb)
          clear hb ho24
          refine hK.out _ _ trivial (fun hHeld => ?_)
          clear hK K
          refine norm_ (a' := ?_) ?_ ?_
          rotate_left
          ·show Act.put _ (some 31) _ = _
           exact za_
          refine two_ (i := 1) (j := 8) (Ni := some 25) (Nj := some 32) #[true, true, true, true, true, true, true, true, false, false, true, true, true, true, false, true, true, true, true, true, true, false, false] #[true, false, true, true, true, true, true, true, true, false, true, true, true, true, false, true, true, true, true, true, true, false, false] rfl rfl rfl rfl (two_of HT_.out (by kernel_rfl)) (by decide) (by decide) (fun K hK => ?_) (fun K hK => ?_)
          ·skip
           refine goes_ Tryz.func15 (by kernel_rfl) rfl #[.string a0, .int .i64 30] (by rfl) rfl rfl zq4 ?_
           with_reducible refine (worldmintref01_Short.calls a0 30 t453 _ A8.out).mono ?_
           rintro e w' ⟨rfl, ⟨nd, rfl⟩⟩
           refine ⟨_, rfl, ?_⟩
           refine hK.out _ _ trivial (fun hHeld => ?_)
           clear hK K
           refine norm_ (a' := ?_) ?_ ?_
           rotate_left
           ·show Act.put _ (some 25) _ = _
            exact za_
           refine one_ (i := 8) (N := some 32) #[true, true, true, true, true, true, true, true, true, false, true, true, true, true, false, true, true, true, true, true, true, false, false] rfl rfl (one_of HT_.out (by kernel_rfl)) (by decide) (fun K hK => ?_)
           have hcv25n := (fun n_ => own_string (P := Tryz.prog) Tryz.underlying29 Tryz.underlying5 Tryz.underlying9 (Kd.own_of_R (Kd.R_drewN HO456.out n_))); have hcv25 := own_string (P := Tryz.prog) Tryz.underlying29 Tryz.underlying5 Tryz.underlying9 (Kd.own_of_R HO456.out)
           refine value_ (w1 := ?_) (v := ?_) (by rfl) rfl ?_ ?_
           rotate_left 2
           ·go_simp
            constructor
            ·rfl
            ·rfl
           clear hcv25 hcv25n
           refine hK.out _ _ trivial (fun hHeld => ?_)
           clear hK K
           refine norm_ (a' := ?_) ?_ ?_
           rotate_left
           ·show Act.put _ (some 32) _ = _
            exact za_
           refine pure_ (i := 9) (N := some 33) (v := ?_) (a' := ?_) #[true, true, true, true, true, true, true, true, true, true, true, true, true, true, false, true, true, true, true, true, true, false, false] rfl rfl (any_of HT_.out (by kernel_rfl)) (fun _ _ _ h => h) (Or.inl ⟨by rfl, ?_⟩) ?_ ?_
           rotate_left
           ·intro w'
            go_simp
            with_reducible rfl
           rotate_left
           ·exact za_
           refine pure_ (i := 14) (N := some 38) (v := ?_) (a' := ?_) #[true, true, true, true, true, true, true, true, true, true, true, true, true, true, true, true, true, true, true, true, true, false, false] rfl rfl (any_of HT_.out (by kernel_rfl)) (fun _ _ _ h => h) (Or.inl ⟨by rfl, ?_⟩) ?_ ?_
           rotate_left
           ·intro w'
            go_simp
            with_reducible rfl
           rotate_left
           ·exact za_
           exact norm_ zq91 (hCont (v455) _ ⟨(zq92 HO450.out), (zq7 HO456.out), zq2⟩)
          ·skip
           have hcv25n := (fun n_ => own_string (P := Tryz.prog) Tryz.underlying29 Tryz.underlying5 Tryz.underlying9 (Kd.own_of_R (Kd.R_drewN HO456.out n_))); have hcv25 := own_string (P := Tryz.prog) Tryz.underlying29 Tryz.underlying5 Tryz.underlying9 (Kd.own_of_R HO456.out)
           refine value_ (w1 := ?_) (v := ?_) (by rfl) rfl ?_ ?_
           rotate_left 2
           ·go_simp
            constructor
            ·rfl
            ·rfl
           clear hcv25 hcv25n
           refine hK.out _ _ trivial (fun hHeld => ?_)
           clear hK K
           refine norm_ (a' := ?_) ?_ ?_
           rotate_left
           ·show Act.put _ (some 32) _ = _
            exact za_
           refine pure_ (i := 9) (N := some 33) (v := ?_) (a' := ?_) #[true, false, true, true, true, true, true, true, true, true, true, true, true, true, false, true, true, true, true, true, true, false, false] rfl rfl (any_of HT_.out (by kernel_rfl)) (fun _ _ _ h => h) (Or.inl ⟨by rfl, ?_⟩) ?_ ?_
           rotate_left
           ·intro w'
            go_simp
            with_reducible rfl
           rotate_left
           ·exact za_
           refine pure_ (i := 14) (N := some 38) (v := ?_) (a' := ?_) #[true, false, true, true, true, true, true, true, true, true, true, true, true, true, true, true, true, true, true, true, true, false, false] rfl rfl (any_of HT_.out (by kernel_rfl)) (fun _ _ _ h => h) (Or.inl ⟨by rfl, ?_⟩) ?_ ?_
           rotate_left
           ·intro w'
            go_simp
            with_reducible rfl
           rotate_left
           ·exact za_
           refine one_ (i := 1) (N := some 25) #[true, true, true, true, true, true, true, true, true, true, true, true, true, true, true, true, true, true, true, true, true, false, false] rfl rfl (one_of HT_.out (by kernel_rfl)) (by decide) (fun K hK => ?_)
           refine goes_ Tryz.func15 (by kernel_rfl) rfl #[.string a0, .int .i64 30] (by rfl) rfl rfl zq4 ?_
           with_reducible refine (worldmintref01_Short.calls a0 30 t453 _ A8.out).mono ?_
           rintro e w' ⟨rfl, ⟨nd, rfl⟩⟩
           refine ⟨_, rfl, ?_⟩
           refine hK.out _ _ trivial (fun hHeld => ?_)
           clear hK K
           refine norm_ (a' := ?_) ?_ ?_
           rotate_left
           ·show Act.put _ (some 25) _ = _
            exact za_
           exact norm_ zq91 (hCont (v455) _ ⟨(zq92 HO450.out), (zq7 HO456.out), zq2⟩)
        rintro v455 w26 ⟨h0_, h1_, h2_⟩
        have n0_ : Aside0 (Kd.V (Kd.int .i64) 3 w26 w.heap.size (fun k_ => some k_ ≠ (v455 : Value).ownBlock) (.slice Ao20 t448.length co20) t448) := ⟨h0_⟩
        have n1_ : Aside0 (Kd.R (Kd.int .u8) 5 w26 w.heap.size (fun _ => True) v455 y454) := ⟨h1_⟩
        have n2_ : Aside0 (Below w.heap.size w w26) := ⟨h2_⟩
        clear HO450; clear HB
        clear h0_ h1_ h2_
        have HO450 := n0_; have HO456 := n1_; have HB := n2_; clear n0_ n1_ n2_
        have hHeld := trivial
        refine norm_ (a' := ?_) ?_ ?_
        rotate_left
        ·simp only [putAll, Act.put, List.setIfInBounds_toArray, List.set_cons_zero, List.set_cons_succ]
         rfl
        refine one_ (i := 21) (N := some 45) #[true, true, true, true, true, true, true, true, true, true, true, true, true, true, true, true, true, true, true, true, true, true, false] rfl rfl (one_of HT_.out (by kernel_rfl)) (by decide) (fun K hK => ?_)
        refine Kd.R_lit_step Kd.string _ 9 ?hg (N := 45) ?hd (xs := ([t453, t451, ((t451.extract 0 (t452 : Int).toNat) ++ (strOfNums y454)) ++ (t451.extract ((ji12) : Int).toNat t451.size), t451.extract 0 (t452 : Int).toNat, t451 ++ t451] : List ByteArray)) (inner := [.string t453, .string t451, .string (((t451.extract 0 (t452 : Int).toNat) ++ (strOfNums y454)) ++ (t451.extract ((ji12) : Int).toNat t451.size)), .string (t451.extract 0 (t452 : Int).toNat), .string (t451 ++ t451)]) (ok := fun _ => True) (okp := fun _ => True) ?hr ?hp (fun _ hk => hk) trivial (Below.refl _ _) (Nat.le_refl _) (by simp) ?_; (case hd => rfl); (case hg => rfl); (case hr => exact zq1); (case hp => exact (Reps.one (show Kd.M Kd.string _ _ _ t453 [.string t453] from rfl) (Reps.one (show Kd.M Kd.string _ _ _ t451 [.string t451] from rfl) (Reps.one (show Kd.M Kd.string _ _ _ (((t451.extract 0 (t452 : Int).toNat) ++ (strOfNums y454)) ++ (t451.extract ((ji12) : Int).toNat t451.size)) [.string (((t451.extract 0 (t452 : Int).toNat) ++ (strOfNums y454)) ++ (t451.extract ((ji12) : Int).toNat t451.size))] from rfl) (Reps.one (show Kd.M Kd.string _ _ _ (t451.extract 0 (t452 : Int).toNat) [.string (t451.extract 0 (t452 : Int).toNat)] from rfl) (Reps.one (show Kd.M Kd.string _ _ _ (t451 ++ t451) [.string (t451 ++ t451)] from rfl) (Reps.none _ _)))))))
        intro v458 w27 ho28 hb hg_ hnew_
        clear hg_ hnew_
        (first | rw [← Ny457.out] at ho28 | (simp only [Int.reduceToNat] at ho28; rw [← Ny457.out] at ho28))
        have HO459 := am_ (Kd.R_lower ho28 (below_size zq2)); replace HB := am_ (below_step zq2 hb)
        clear hb ho28
        refine hK.out _ _ trivial (fun hHeld => ?_)
        clear hK K
        refine norm_ (a' := ?_) ?_ ?_
        rotate_left
        ·show Act.put _ (some 45) _ = _
         exact za_
        refine pure_ (i := 22) (N := some 11) (v := ?_) (a' := ?_) #[true, true, true, true, true, true, true, true, true, true, true, true, true, true, true, true, true, true, true, true, true, true, true] rfl rfl (any_of HT_.out (by kernel_rfl)) (fun _ _ _ h => h) (Or.inl ⟨by rfl, ?_⟩) ?_ ?_
        rotate_left
        ·intro w'
         go_simp
         with_reducible rfl
        rotate_left
        ·exact za_
        refine done_ (done_of HT_.out (by kernel_rfl)) ?_
        try go_wp2
        try simp only [Act.put, List.setIfInBounds_toArray, List.set_cons_zero, List.set_cons_succ]
        go_loopg [12] k (fun kq v12 w' => ∃ (x12_1 : Int), v12 = .int .i64 x12_1 ∧ Aside0 (worldmintlaw05_WideTexts.l0 kq y457 x12_1 = some r) ∧ Aside0 (kq ≤ k) ∧ Aside0 (Kd.R Kd.string 9 w' w.heap.size (fun _ => True) v458 y457) ∧ Aside0 (Below w.heap.size w w'))
        case atStart => exact ⟨(0), zq0, H', ⟨Nat.le_refl _⟩, ⟨by (with_reducible repeat (first | apply Kd.R_alloc | apply Kd.R_drewN | apply Kd.R_drew)); exact HO459.out⟩, ⟨by repeat (first | (with_reducible first | exact HB.out | apply below_alloc | apply pw_below_drewN | apply below_drew1) | exact HB.out)⟩⟩
        case round =>
         clear H'
         try clear c1
         try clear p2
         try clear hcv2
         try clear c3
         try clear p6
         try clear c9
         try clear c9b0
         try clear c9b1
         try clear c10
         try clear c10b0
         try clear c10b1
         try clear c11
         try clear c11b0
         try clear c11b1
         try clear c11b2
         try clear c12
         try clear c13
         try clear c13b0
         try clear c13b1
         try clear c14
         try clear c14b0
         try clear c14b1
         try clear c15
         try clear c15b0
         try clear c15b1
         try clear c15b2
         try clear c16
         try clear c16b0
         try clear c17
         try clear c17b0
         try clear c18
         try clear c18b0
         try clear c18b1
         try clear c18b2
         try clear hcv25 hcv25n
         obtain ⟨x12_1, rfl, HA, HK1, HO_11, HB⟩ := hrel
         cases gk with
         | zero => exact absurd HA.out (by simp [worldmintlaw05_WideTexts.l0])
         | succ k1 =>
          have H := HA.out
          clear HA
          simp only [worldmintlaw05_WideTexts.l0] at H
          by_cases c29 : x12_1 < (y457.length : Int)
          ·rw [if_pos c29] at H
           have c29b0 : decide (x12_1 < (y457.length : Int)) = true := decide_eq_true c29
           clear c29
           by_cases c30 : 0 ≤ x12_1
           ·rw [if_pos c30] at H
            have c30b0 : decide (0 ≤ x12_1) = true := decide_eq_true c30
            clear c30
            replace H := Option.bind_eq_some_iff.mp H
            obtain ⟨⟨t462, t463, t466⟩, A310, H⟩ := H
            replace H : ((worldmintref05_Parse.f k1 (rdOf ByteArray.empty y457 x12_1)).bind fun bt469 => (if t466 = bt469.2.2 then ((worldmintlaw05_equal.f k1 t462 t463 bt469.1 bt469.2.1).bind fun t475 => (if t475 = true then (if t466 = 0 then ((wide_Int_String.f t462 t463).bind fun t476 => (if t476.toList = (rdOf ByteArray.empty y457 x12_1).toList then (worldmintlaw05_WideTexts.l0 k1 y457 (wrap64 (x12_1 + 1))) else (some false))) else (worldmintlaw05_WideTexts.l0 k1 y457 (wrap64 (x12_1 + 1)))) else (some false))) else (some false))) = some r := H
            have A31 := am_ A310
            clear A310
            replace H := Option.bind_eq_some_iff.mp H
            obtain ⟨⟨t469, t470, t473⟩, A320, H⟩ := H
            replace H : (if t466 = t473 then ((worldmintlaw05_equal.f k1 t462 t463 t469 t470).bind fun t475 => (if t475 = true then (if t466 = 0 then ((wide_Int_String.f t462 t463).bind fun t476 => (if t476.toList = (rdOf ByteArray.empty y457 x12_1).toList then (worldmintlaw05_WideTexts.l0 k1 y457 (wrap64 (x12_1 + 1))) else (some false))) else (worldmintlaw05_WideTexts.l0 k1 y457 (wrap64 (x12_1 + 1)))) else (some false))) else (some false)) = some r := H
            have A32 := am_ A320
            clear A320
            by_cases c33 : t466 = t473
            ·rw [if_pos c33] at H
             have c33b0 : (t466 == t473) = true := beq_iff_eq.mpr c33
             have c33b1 : (t466 != t473) = false := bne_eq_false_iff_eq.mpr c33
             clear c33
             replace H := Option.bind_eq_some_iff.mp H
             obtain ⟨t475, A340, H⟩ := H
             replace H : (if t475 = true then (if t466 = 0 then ((wide_Int_String.f t462 t463).bind fun t476 => (if t476.toList = (rdOf ByteArray.empty y457 x12_1).toList then (worldmintlaw05_WideTexts.l0 k1 y457 (wrap64 (x12_1 + 1))) else (some false))) else (worldmintlaw05_WideTexts.l0 k1 y457 (wrap64 (x12_1 + 1)))) else (some false)) = some r := H
             have A34 := am_ A340
             clear A340
             by_cases c35 : t475 = true
             ·subst c35
              have H1 : (if t466 = 0 then ((wide_Int_String.f t462 t463).bind fun t476 => (if t476.toList = (rdOf ByteArray.empty y457 x12_1).toList then (worldmintlaw05_WideTexts.l0 k1 y457 (wrap64 (x12_1 + 1))) else (some false))) else (worldmintlaw05_WideTexts.l0 k1 y457 (wrap64 (x12_1 + 1)))) = some r := by rw [if_pos rfl] at H; exact H
              clear H
              have H := H1
              clear H1
              by_cases c36 : t466 = 0
              ·rw [if_pos c36] at H
               have c36b0 : (t466 == 0) = true := beq_iff_eq.mpr c36
               have c36b1 : (t466 != 0) = false := bne_eq_false_iff_eq.mpr c36
               clear c36
               replace H := Option.bind_eq_some_iff.mp H
               obtain ⟨t476, A370, H⟩ := H
               replace H : (if t476.toList = (rdOf ByteArray.empty y457 x12_1).toList then (worldmintlaw05_WideTexts.l0 k1 y457 (wrap64 (x12_1 + 1))) else (some false)) = some r := H
               have A37 := am_ A370
               clear A370
               by_cases c38 : t476.toList = (rdOf ByteArray.empty y457 x12_1).toList
               ·rw [if_pos c38] at H
                have c38b0 : (t476.toList == (rdOf ByteArray.empty y457 x12_1).toList) = true := beq_iff_eq.mpr c38
                have c38b1 : (t476.toList != (rdOf ByteArray.empty y457 x12_1).toList) = false := bne_eq_false_iff_eq.mpr c38
                clear c38
                have H' := am_ H
                clear H
                obtain ⟨Ao39, co39, eo39⟩ := Kd.R_slice HO_11.out
                subst eo39
                have p461 : 0 ≤ (x12_1 : Int) := of_decide_eq_true zq3
                have q461 : x12_1 < (y457.length : Int) := of_decide_eq_true zq3
                obtain ⟨ad461, e461, hx461_0⟩ := Kd.at_string (Kd.R_reads' HO_11.out).2.2 x12_1 p461 q461
                cases e461
                replace p461 := eq_true p461
                replace q461 := eq_true q461
                try go_wp2_with (first | ((with_reducible refine gate_callee (f := 16) rfl ?_); refine goesL_ (some 57) rfl rfl Tryz.func16 (by kernel_rfl) rfl #[.string (rdOf ByteArray.empty y457 x12_1)] rfl zq4 ?_; (with_reducible refine (wide_Parse.calls k1 (rdOf ByteArray.empty y457 x12_1) t462 t463 t466 _ A31.out).mono ?_); rintro e w40 ⟨v464, rfl, ho0, hb⟩; refine ⟨_, rfl, ?_⟩; have n0_ := am_ (Kd.R_below (zq7 HO_11.out) hb); have n1_ := am_ (Kd.V_lower (Kd.V_mono (ok' := fun k_ => some k_ ≠ (.slice (some ad461) y457.length co39 : Value).ownBlock) ho0 (fun k_ hk_ => (Kd.fresh' (Kd.R_lt (zq7 HO_11.out)) k_ hk_))) (below_size zq2)); have n2_ := am_ (below_step zq2 hb); clear HO_11 HB; have HO_11 := n0_; have HO465 := n1_; have HB := n2_; clear n0_ n1_ n2_; (try clear hb); (try clear ho0)) | ((with_reducible refine gate_dst (N := 13) rfl ?_); refine box_event ?hg (N := 13) ?hd (cs := #[.bool false, .slice none 0 0]) (t := 33) ?hr ?_; (case hd => rfl); (case hg => rfl); (case hr => exact zq1); intro gb467 hg w41 hbox hb; have n0_ := am_ (Kd.R_below (zq7 HO_11.out) hb); have n1_ := am_ (Kd.V_below (Kd.V_elderB (zq5 HO465.out) gb467 (Nat.le_of_eq hg.symm)) hb); have n2_ := am_ (below_step zq2 hb); have n3_ := am_ (hbox); have n4_ := am_ ((by rw [hg]; exact (below_size zq2) : w.heap.size ≤ gb467)); clear HO_11 HO465 HB; have HO_11 := n0_; have HO465 := n1_; have HB := n2_; have BK467 := n3_; have GE467 := n4_; clear n0_ n1_ n2_ n3_ n4_; clear hb hbox hg; have hcz42_0 : w41.cell? ⟨gb467, 0, none⟩ = some (.bool false) := (blk_cell BK467.out 0).trans rfl; have hcz42_1 : w41.cell? ⟨gb467, 1, none⟩ = some (.slice none 0 0) := (blk_cell BK467.out 1).trans rfl; have hfz42_0 := blk_frozen BK467.out 0; have hfz42_1 := blk_frozen BK467.out 1; obtain ⟨Ao43, co43, eo43⟩ := Kd.V_slice HO465.out; subst eo43; have p468 : 0 ≤ (x12_1 : Int) := of_decide_eq_true zq3; have q468 : x12_1 < (y457.length : Int) := of_decide_eq_true zq3; obtain ⟨ad468, e468, hx468_0⟩ := Kd.at_string (Kd.R_reads' HO_11.out).2.2 x12_1 p468 q468; obtain rfl : ad461 = ad468 := (by injection e468); have hn468_0 : ad461.block ≠ gb467 := Kd.own_blk (Kd.R_ne HO_11.out BK467.out (by decide)); have hn468_1 : ad461.block ≠ gb467 := Kd.own_blk (Kd.R_ne HO_11.out BK467.out (by decide)); replace hx468_0 := (cell_far (p := ⟨gb467, 0, none⟩) zq93 (.bool t462)).trans hx468_0; replace hx468_0 := (cell_far (p := ⟨gb467, 1, none⟩) zq94 (.slice Ao43 t463.length co43)).trans hx468_0; clear hn468_0; clear hn468_1; replace p468 := eq_true p468; replace q468 := eq_true q468) | ((with_reducible refine gate_callee (f := 17) rfl ?_); refine goesL_ (some 65) rfl rfl Tryz.func17 (by kernel_rfl) rfl #[.string (rdOf ByteArray.empty y457 x12_1)] rfl zq4 ?_; (with_reducible refine (worldmintref05_Parse.calls k1 (rdOf ByteArray.empty y457 x12_1) t469 t470 t473 _ A32.out).mono ?_); rintro e w44 ⟨v471, rfl, ho0, hb⟩; refine ⟨_, rfl, ?_⟩; have n0_ := am_ (Kd.R_below zq95 hb); have n1_ := am_ (Kd.V_below (by (with_reducible repeat (first | apply Kd.V_alloc | apply Kd.V_drewN | apply Kd.V_drew)); exact (Kd.V_mono (Kd.V_far (p := ⟨gb467, 1, none⟩) (Kd.V_far (p := ⟨gb467, 0, none⟩) (Kd.V_mono HO465.out (fun k_ hk => (⟨hk, hk.2⟩ : _ ∧ k_ ≠ gb467))) (fun _ hk => hk.2) (.bool t462)) (fun _ hk => hk.2) (.slice Ao43 t463.length co43)) (fun _ h_ => h_.1))) hb); have n2_ := am_ (Kd.V_lower (Kd.V_mono (ok' := fun k_ => some k_ ≠ (.slice (some ad461) y457.length co39 : Value).ownBlock ∧ k_ ≠ gb467) ho0 (fun k_ hk_ => ⟨(Kd.fresh' (Kd.R_lt zq95) k_ hk_), (Kd.freshB (g := gb467) (o := .cells #[.bool t462, .slice Ao43 t463.length co43] 33 (0, 0)) (zq96 BK467.out) k_ hk_)⟩)) (below_size zq97)); have n3_ := am_ (blk_below (g := gb467) (o := .cells #[.bool t462, .slice Ao43 t463.length co43] 33 (0, 0)) (zq96 BK467.out) hb); have n4_ := am_ (below_step zq97 hb); clear HO_11 HO465 BK467 HB; have HO_11 := n0_; have HO465 := n1_; have HO472 := n2_; have BK467 := n3_; have HB := n4_; clear n0_ n1_ n2_ n3_ n4_; (try clear hb); (try clear ho0)) | ((with_reducible refine gate_dst (N := 15) rfl ?_); refine box_event ?hg (N := 15) ?hd (cs := #[.bool false, .slice none 0 0]) (t := 25) ?hr ?_; (case hd => rfl); (case hg => rfl); (case hr => exact zq1); intro gb474 hg w45 hbox hb; have n0_ := am_ (Kd.R_below (zq7 HO_11.out) hb); have n1_ := am_ (Kd.V_below (Kd.V_elderB (zq5 HO465.out) gb474 (Nat.le_of_eq hg.symm)) hb); have n2_ := am_ (Kd.V_below (Kd.V_elderB (zq5 HO472.out) gb474 (Nat.le_of_eq hg.symm)) hb); have n3_ := am_ (blk_below (g := gb467) (o := .cells #[.bool t462, .slice Ao43 t463.length co43] 33 (0, 0)) (zq9 BK467.out) hb); have n4_ := am_ (below_step zq97 hb); have n5_ := am_ (hbox); have n6_ := am_ ((by rw [hg]; exact (below_size zq97) : w.heap.size ≤ gb474)); have n7_ := am_ ((by rw [hg]; exact Nat.ne_of_lt (blk_lt (g := gb467) (zq9 BK467.out)) : gb467 ≠ gb474)); have n8_ := am_ ((by rw [hg]; exact Nat.ne_of_gt (blk_lt (g := gb467) (zq9 BK467.out)) : gb474 ≠ gb467)); clear HO_11 HO465 HO472 BK467 HB; have HO_11 := n0_; have HO465 := n1_; have HO472 := n2_; have BK467 := n3_; have HB := n4_; have BK474 := n5_; have GE474 := n6_; have NB467_474 := n7_; have NB474_467 := n8_; clear n0_ n1_ n2_ n3_ n4_ n5_ n6_ n7_ n8_; clear hb hbox hg; have hnb46 := NB474_467.out; have hnc46 := NB467_474.out; have hcz47_0 : w45.cell? ⟨gb474, 0, none⟩ = some (.bool false) := (blk_cell BK474.out 0).trans rfl; have hcz47_1 : w45.cell? ⟨gb474, 1, none⟩ = some (.slice none 0 0) := (blk_cell BK474.out 1).trans rfl; have hfz47_0 := blk_frozen BK474.out 0; have hfz47_1 := blk_frozen BK474.out 1; obtain ⟨Ao48, co48, eo48⟩ := Kd.V_slice HO472.out; subst eo48))
                have n0_ : Aside0 (Kd.R Kd.string 9 ((w45.setCell ⟨gb474, 0, none⟩ (.bool t469)).setCell ⟨gb474, 1, none⟩ (.slice Ao48 t470.length co48)) w.heap.size (fun _ => True) (.slice (some ad461) y457.length co39) y457) := ⟨by (with_reducible repeat (first | apply Kd.R_alloc | apply Kd.R_drewN | apply Kd.R_drew)); exact Kd.R_mono (Kd.R_far (p := ⟨gb474, 1, none⟩) (Kd.R_far (p := ⟨gb474, 0, none⟩) (Kd.R_types HO_11.out BK474.out (by decide)) (fun _ hk => hk.2) (.bool t469)) (fun _ hk => hk.2) (.slice Ao48 t470.length co48)) (fun _ hk => trivial)⟩
                have n1_ : Aside0 (Kd.V (Kd.int .u32) 81 ((w45.setCell ⟨gb474, 0, none⟩ (.bool t469)).setCell ⟨gb474, 1, none⟩ (.slice Ao48 t470.length co48)) w.heap.size (fun k_ => some k_ ≠ (.slice (some ad461) y457.length co39 : Value).ownBlock ∧ k_ ≠ gb467 ∧ k_ ≠ gb474) (.slice Ao43 t463.length co43) t463) := ⟨by (with_reducible repeat (first | apply Kd.V_alloc | apply Kd.V_drewN | apply Kd.V_drew)); exact Kd.V_mono (Kd.V_far (p := ⟨gb474, 1, none⟩) (Kd.V_far (p := ⟨gb474, 0, none⟩) (Kd.V_mono HO465.out (fun k_ hk => (⟨hk, hk.2⟩ : _ ∧ k_ ≠ gb474))) (fun _ hk => hk.2) (.bool t469)) (fun _ hk => hk.2) (.slice Ao48 t470.length co48)) (fun _ hk => ⟨hk.1.1.1, ⟨hk.1.1.2, hk.1.2⟩⟩)⟩
                have n2_ : Aside0 (Kd.V (Kd.int .i64) 3 ((w45.setCell ⟨gb474, 0, none⟩ (.bool t469)).setCell ⟨gb474, 1, none⟩ (.slice Ao48 t470.length co48)) w.heap.size (fun k_ => some k_ ≠ (.slice (some ad461) y457.length co39 : Value).ownBlock ∧ k_ ≠ gb467 ∧ k_ ≠ gb474) (.slice Ao48 t470.length co48) t470) := ⟨by (with_reducible repeat (first | apply Kd.V_alloc | apply Kd.V_drewN | apply Kd.V_drew)); exact Kd.V_mono (Kd.V_far (p := ⟨gb474, 1, none⟩) (Kd.V_far (p := ⟨gb474, 0, none⟩) (Kd.V_mono HO472.out (fun k_ hk => (⟨hk, hk.2⟩ : _ ∧ k_ ≠ gb474))) (fun _ hk => hk.2) (.bool t469)) (fun _ hk => hk.2) (.slice Ao48 t470.length co48)) (fun _ hk => ⟨hk.1.1.1, ⟨hk.1.1.2, hk.1.2⟩⟩)⟩
                have n3_ : Aside0 (((w45.setCell ⟨gb474, 0, none⟩ (.bool t469)).setCell ⟨gb474, 1, none⟩ (.slice Ao48 t470.length co48)).heap[gb467]? = some (.cells #[.bool t462, .slice Ao43 t463.length co43] 33 (0, 0))) := ⟨by (with_reducible repeat (first | refine blk_drewN ?_ _ | refine blk_drew ?_ | refine blk_alloc ?_ _)); refine blk_far ?_ NB467_474.out _; (with_reducible repeat (first | refine blk_drewN ?_ _ | refine blk_drew ?_ | refine blk_alloc ?_ _)); refine blk_far ?_ NB467_474.out _; (with_reducible repeat (first | refine blk_drewN ?_ _ | refine blk_drew ?_ | refine blk_alloc ?_ _)); exact BK467.out⟩
                have n4_ : Aside0 (((w45.setCell ⟨gb474, 0, none⟩ (.bool t469)).setCell ⟨gb474, 1, none⟩ (.slice Ao48 t470.length co48)).heap[gb474]? = some (.cells #[.bool t469, .slice Ao48 t470.length co48] 25 (0, 0))) := ⟨by (with_reducible repeat (first | refine blk_drewN ?_ _ | refine blk_drew ?_ | refine blk_alloc ?_ _)); refine blk_put (cs := #[.bool t469, .slice none 0 0]) ?_ 1 _ rfl; (with_reducible repeat (first | refine blk_drewN ?_ _ | refine blk_drew ?_ | refine blk_alloc ?_ _)); refine blk_put (cs := #[.bool false, .slice none 0 0]) ?_ 0 _ rfl; (with_reducible repeat (first | refine blk_drewN ?_ _ | refine blk_drew ?_ | refine blk_alloc ?_ _)); exact BK474.out⟩
                have n5_ : Aside0 (Below w.heap.size w ((w45.setCell ⟨gb474, 0, none⟩ (.bool t469)).setCell ⟨gb474, 1, none⟩ (.slice Ao48 t470.length co48))) := ⟨by repeat (first | (with_reducible first | exact HB.out | apply below_alloc | apply pw_below_drewN | apply below_drew1 | refine below_set ?_ GE467.out | refine below_set ?_ GE474.out) | exact HB.out)⟩
                
                generalize ((w45.setCell ⟨gb474, 0, none⟩ (.bool t469)).setCell ⟨gb474, 1, none⟩ (.slice Ao48 t470.length co48)) = w49 at n0_ n1_ n2_ n3_ n4_ n5_ ⊢
                have HO_11 := n0_; have HO465 := n1_; have HO472 := n2_; have BK467 := n3_; have BK474 := n4_; have HB := n5_; clear n0_ n1_ n2_ n3_ n4_ n5_; replace HO_11 := am_ (Kd.R_drew HO_11.out); replace HO465 := am_ (Kd.V_drew HO465.out); replace HO472 := am_ (Kd.V_drew HO472.out); replace BK467 := am_ (blk_drew BK467.out); replace BK474 := am_ (blk_drew BK474.out); replace HB := am_ (below_drew1 HB.out)
                have p477 : 0 ≤ (x12_1 : Int) := of_decide_eq_true zq3
                have q477 : x12_1 < (y457.length : Int) := of_decide_eq_true zq3
                obtain ⟨ad477, e477, hx477_0⟩ := Kd.at_string (Kd.R_reads' HO_11.out).2.2 x12_1 p477 q477
                obtain rfl : ad461 = ad477 := (by injection e477)
                replace p477 := eq_true p477
                replace q477 := eq_true q477
                refine start_ (n := 22) (S := fun w' => w'.cell? ⟨gb467, 0, none⟩ = some (.bool t462) ∧ w'.cell? ⟨gb467, 1, none⟩ = some (.slice Ao43 t463.length co43) ∧ w'.cell? ⟨gb474, 0, none⟩ = some (.bool t469) ∧ w'.cell? ⟨gb474, 1, none⟩ = some (.slice Ao48 t470.length co48) ∧ w'.cell? (ad461.add (x12_1).toNat) = some (.string (rdOf ByteArray.empty y457 x12_1))) (ds := []) #[false, false, false, false, false, false, false, false, false, false, false, false, false, false, false, false, false, false, false, false, false, false] (by kernel_rfl) rfl rfl ⟨(blk_cell BK467.out 0).trans rfl, (blk_cell BK467.out 1).trans rfl, (blk_cell BK474.out 0).trans rfl, (blk_cell BK474.out 1).trans rfl, hx477_0⟩ (fun hHeld => ?_); refine with_tabW worldmintlaw05_WideTexts.tab9 worldmintlaw05_WideTexts.bits9 (fun HT_ HW_ => ?_)
                generalize w49.drew = w50 at HO_11 HO465 HO472 BK467 BK474 HB hx477_0 hHeld ⊢
                refine pure_ (i := 0) (N := some 68) (v := ?_) (a' := ?_) #[true, false, false, false, false, false, false, false, false, false, false, false, false, false, false, false, false, false, false, false, false, false] rfl rfl (any_of HT_.out (by kernel_rfl)) (fun _ _ _ h => h) (Or.inl ⟨by rfl, ?_⟩) ?_ ?_
                rotate_left
                ·intro w'
                 go_simp
                 with_reducible rfl
                rotate_left
                ·exact za_
                refine pure_ (i := 1) (N := some 69) (v := ?_) (a' := ?_) #[true, true, false, false, false, false, false, false, false, false, false, false, false, false, false, false, false, false, false, false, false, false] rfl rfl (any_of HT_.out (by kernel_rfl)) (fun _ _ _ h => h) (Or.inl ⟨by rfl, ?_⟩) ?_ ?_
                rotate_left
                ·intro w'
                 go_simp
                 with_reducible rfl
                rotate_left
                ·exact za_
                refine pure_ (i := 2) (N := some 70) (v := ?_) (a' := ?_) #[true, true, true, false, false, false, false, false, false, false, false, false, false, false, false, false, false, false, false, false, false, false] rfl rfl (any_of HT_.out (by kernel_rfl)) (fun _ _ _ h => h) (Or.inl ⟨by rfl, ?_⟩) ?_ ?_
                rotate_left
                ·intro w'
                 go_simp
                 with_reducible rfl
                rotate_left
                ·exact za_
                refine pure_ (i := 3) (N := some 71) (v := ?_) (a' := ?_) #[true, true, true, true, false, false, false, false, false, false, false, false, false, false, false, false, false, false, false, false, false, false] rfl rfl (any_of HT_.out (by kernel_rfl)) (fun _ _ _ h => h) (Or.inl ⟨by rfl, ?_⟩) ?_ ?_
                rotate_left
                ·intro w'
                 go_simp
                 with_reducible rfl
                rotate_left
                ·exact za_
                refine take_ (i := 4) (N := some 72) (v := ?_) (a' := ?_) #[true, true, true, true, true, false, false, false, false, false, false, false, false, false, false, false, false, false, false, false, false, false] rfl rfl (take_ofW HT_.out HW_.out (by kernel_rfl)) (fun _ _ _ h => h) (Or.inl ⟨by rfl, ?_⟩) hHeld ?_ ?_
                rotate_left
                ·rintro w' ⟨s0, s1, s2, s3, s4⟩
                 go_simp
                 with_reducible rfl
                rotate_left
                ·exact za_
                refine take_ (i := 5) (N := some 73) (v := ?_) (a' := ?_) #[true, true, true, true, true, true, false, false, false, false, false, false, false, false, false, false, false, false, false, false, false, false] rfl rfl (take_ofW HT_.out HW_.out (by kernel_rfl)) (fun _ _ _ h => h) (Or.inl ⟨by rfl, ?_⟩) hHeld ?_ ?_
                rotate_left
                ·rintro w' ⟨s0, s1, s2, s3, s4⟩
                 go_simp
                 with_reducible rfl
                rotate_left
                ·exact za_
                refine one_ (i := 6) (N := some 74) #[true, true, true, true, true, true, true, false, false, false, false, false, false, false, false, false, false, false, false, false, false, false] rfl rfl (one_of HT_.out (by kernel_rfl)) (by decide) (fun K hK => ?_)
                refine goes_ Tryz.func18 (by kernel_rfl) rfl #[.agg #[.bool t462, .slice Ao43 t463.length co43], .agg #[.bool t469, .slice Ao48 t470.length co48]] (by rfl) rfl rfl zq4 ?_
                with_reducible refine (worldmintlaw05_equal.calls k1 t462 _ _ t463 t469 _ _ t470 true _ ?side1 ?side2 ?side3 ?side4 A34.out zq98).mono ?_
                (case side1 => exact (zq31 HO465.out))
                (case side2 => exact (Kd.V_reads' HO465.out).2.1)
                (case side3 => exact (zq31 HO472.out))
                (case side4 => exact (Kd.V_reads' HO472.out).2.1)
                rintro e w51 ⟨rfl, hb⟩
                have HS4_ := (hb.cell (World.block_lt_of_cell? _ _ (hHeld.2.2.2.2))).trans (hHeld.2.2.2.2)
                refine ⟨_, rfl, ?_⟩
                replace HO_11 := am_ (Kd.R_below (zq7 HO_11.out) hb); replace HO465 := am_ (Kd.V_below (zq5 HO465.out) hb); replace HO472 := am_ (Kd.V_below (zq5 HO472.out) hb); replace BK467 := am_ (blk_below (g := gb467) (o := .cells #[.bool t462, .slice Ao43 t463.length co43] 33 (0, 0)) (zq9 BK467.out) hb); replace BK474 := am_ (blk_below (g := gb474) (o := .cells #[.bool t469, .slice Ao48 t470.length co48] 25 (0, 0)) (zq9 BK474.out) hb); replace HB := am_ (below_step zq99 hb); (try clear hb)
                refine hK.out _ _ ⟨(blk_cell BK467.out 0).trans rfl, (blk_cell BK467.out 1).trans rfl, (blk_cell BK474.out 0).trans rfl, (blk_cell BK474.out 1).trans rfl, HS4_⟩ (fun hHeld => ?_)
                clear hK K
                refine norm_ (a' := ?_) ?_ ?_
                rotate_left
                ·show Act.put _ (some 74) _ = _
                 exact za_
                refine pure_ (i := 7) (N := some 75) (v := ?_) (a' := ?_) #[true, true, true, true, true, true, true, true, false, false, false, false, false, false, false, false, false, false, false, false, false, false] rfl rfl (any_of HT_.out (by kernel_rfl)) (fun _ _ _ h => h) (Or.inl ⟨by rfl, ?_⟩) ?_ ?_
                rotate_left
                ·intro w'
                 go_simp
                 with_reducible rfl
                rotate_left
                ·exact za_
                refine pure_ (i := 8) (N := some 76) (v := ?_) (a' := ?_) #[true, true, true, true, true, true, true, true, true, false, false, false, false, false, false, false, false, false, false, false, false, false] rfl rfl (any_of HT_.out (by kernel_rfl)) (fun _ _ _ h => h) (Or.inl ⟨by rfl, ?_⟩) ?_ ?_
                rotate_left
                ·intro w'
                 go_simp
                 with_reducible rfl
                rotate_left
                ·exact za_
                refine pure_ (i := 9) (N := some 77) (v := ?_) (a' := ?_) #[true, true, true, true, true, true, true, true, true, true, false, false, false, false, false, false, false, false, false, false, false, false] rfl rfl (any_of HT_.out (by kernel_rfl)) (fun _ _ _ h => h) (Or.inl ⟨by rfl, ?_⟩) ?_ ?_
                rotate_left
                ·intro w'
                 go_simp
                 with_reducible rfl
                rotate_left
                ·exact za_
                refine pure_ (i := 10) (N := some 78) (v := ?_) (a' := ?_) #[true, true, true, true, true, true, true, true, true, true, true, false, false, false, false, false, false, false, false, false, false, false] rfl rfl (any_of HT_.out (by kernel_rfl)) (fun _ _ _ h => h) (Or.inl ⟨by rfl, ?_⟩) ?_ ?_
                rotate_left
                ·intro w'
                 go_simp
                 with_reducible rfl
                rotate_left
                ·exact za_
                refine pure_ (i := 11) (N := some 79) (v := ?_) (a' := ?_) #[true, true, true, true, true, true, true, true, true, true, true, true, false, false, false, false, false, false, false, false, false, false] rfl rfl (any_of HT_.out (by kernel_rfl)) (fun _ _ _ h => h) (Or.inl ⟨by rfl, ?_⟩) ?_ ?_
                rotate_left
                ·intro w'
                 go_simp
                 with_reducible rfl
                rotate_left
                ·exact za_
                refine pure_ (i := 12) (N := some 80) (v := ?_) (a' := ?_) #[true, true, true, true, true, true, true, true, true, true, true, true, true, false, false, false, false, false, false, false, false, false] rfl rfl (any_of HT_.out (by kernel_rfl)) (fun _ _ _ h => h) (Or.inl ⟨by rfl, ?_⟩) ?_ ?_
                rotate_left
                ·intro w'
                 go_simp
                 with_reducible rfl
                rotate_left
                ·exact za_
                refine pure_ (i := 15) (N := some 83) (v := ?_) (a' := ?_) #[true, true, true, true, true, true, true, true, true, true, true, true, true, false, false, true, false, false, false, false, false, false] rfl rfl (any_of HT_.out (by kernel_rfl)) (fun _ _ _ h => h) (Or.inl ⟨by rfl, ?_⟩) ?_ ?_
                rotate_left
                ·intro w'
                 go_simp
                 with_reducible rfl
                rotate_left
                ·exact za_
                refine pure_ (i := 16) (N := some 84) (v := ?_) (a' := ?_) #[true, true, true, true, true, true, true, true, true, true, true, true, true, false, false, true, true, false, false, false, false, false] rfl rfl (any_of HT_.out (by kernel_rfl)) (fun _ _ _ h => h) (Or.inl ⟨by rfl, ?_⟩) ?_ ?_
                rotate_left
                ·intro w'
                 go_simp
                 with_reducible rfl
                rotate_left
                ·exact za_
                refine pure_ (i := 17) (N := some 85) (v := ?_) (a' := ?_) #[true, true, true, true, true, true, true, true, true, true, true, true, true, false, false, true, true, true, false, false, false, false] rfl rfl (any_of HT_.out (by kernel_rfl)) (fun _ _ _ h => h) (Or.inl ⟨by rfl, ?_⟩) ?_ ?_
                rotate_left
                ·intro w'
                 go_simp
                 with_reducible rfl
                rotate_left
                ·exact za_
                refine take_ (i := 13) (N := some 81) (v := ?_) (a' := ?_) #[true, true, true, true, true, true, true, true, true, true, true, true, true, true, false, true, true, true, false, false, false, false] rfl rfl (take_ofW HT_.out HW_.out (by kernel_rfl)) (fun _ _ _ h => h) (Or.inl ⟨by rfl, ?_⟩) hHeld ?_ ?_
                rotate_left
                ·rintro w' ⟨s0, s1, s2, s3, s4⟩
                 go_simp
                 with_reducible rfl
                rotate_left
                ·exact za_
                refine take_ (i := 18) (N := some 86) (v := ?_) (a' := ?_) #[true, true, true, true, true, true, true, true, true, true, true, true, true, true, false, true, true, true, true, false, false, false] rfl rfl (take_ofW HT_.out HW_.out (by kernel_rfl)) (fun _ _ _ h => h) (Or.inl ⟨by rfl, ?_⟩) hHeld ?_ ?_
                rotate_left
                ·rintro w' ⟨s0, s1, s2, s3, s4⟩
                 go_simp
                 with_reducible rfl
                rotate_left
                ·exact za_
                refine one_ (i := 14) (N := some 82) #[true, true, true, true, true, true, true, true, true, true, true, true, true, true, true, true, true, true, true, false, false, false] rfl rfl (one_of HT_.out (by kernel_rfl)) (by decide) (fun K hK => ?_)
                refine goes_ Tryz.func19 (by kernel_rfl) rfl #[.agg #[.bool t462, .slice Ao43 t463.length co43]] (by rfl) rfl rfl zq4 ?_
                with_reducible refine (wide_Int_String.calls t462 _ _ t463 t476 _ ?side1 ?side2 A37.out zq98).mono ?_
                (case side1 => exact (zq31 HO465.out))
                (case side2 => exact (Kd.V_reads' HO465.out).2.1)
                rintro e w52 ⟨rfl, hb⟩
                have HS4_ := (hb.cell (World.block_lt_of_cell? _ _ (hHeld.2.2.2.2))).trans (hHeld.2.2.2.2)
                refine ⟨_, rfl, ?_⟩
                replace HO_11 := am_ (Kd.R_below (zq7 HO_11.out) hb); replace HO465 := am_ (Kd.V_below (zq5 HO465.out) hb); replace HO472 := am_ (Kd.V_below (zq5 HO472.out) hb); replace BK467 := am_ (blk_below (g := gb467) (o := .cells #[.bool t462, .slice Ao43 t463.length co43] 33 (0, 0)) (zq9 BK467.out) hb); replace BK474 := am_ (blk_below (g := gb474) (o := .cells #[.bool t469, .slice Ao48 t470.length co48] 25 (0, 0)) (zq9 BK474.out) hb); replace HB := am_ (below_step zq99 hb); (try clear hb)
                refine hK.out _ _ ⟨(blk_cell BK467.out 0).trans rfl, (blk_cell BK467.out 1).trans rfl, (blk_cell BK474.out 0).trans rfl, (blk_cell BK474.out 1).trans rfl, HS4_⟩ (fun hHeld => ?_)
                clear hK K
                refine norm_ (a' := ?_) ?_ ?_
                rotate_left
                ·show Act.put _ (some 82) _ = _
                 exact za_
                refine pure_ (i := 19) (N := some 87) (v := ?_) (a' := ?_) #[true, true, true, true, true, true, true, true, true, true, true, true, true, true, true, true, true, true, true, true, false, false] rfl rfl (any_of HT_.out (by kernel_rfl)) (fun _ _ _ h => h) (Or.inl ⟨by rfl, ?_⟩) ?_ ?_
                rotate_left
                ·intro w'
                 go_simp
                 with_reducible rfl
                rotate_left
                ·exact za_
                refine pure_ (i := 20) (N := some 88) (v := ?_) (a' := ?_) #[true, true, true, true, true, true, true, true, true, true, true, true, true, true, true, true, true, true, true, true, true, false] rfl rfl (any_of HT_.out (by kernel_rfl)) (fun _ _ _ h => h) (Or.inl ⟨by rfl, ?_⟩) ?_ ?_
                rotate_left
                ·intro w'
                 go_simp
                 with_reducible rfl
                rotate_left
                ·exact za_
                refine pure_ (i := 21) (N := some 89) (v := ?_) (a' := ?_) #[true, true, true, true, true, true, true, true, true, true, true, true, true, true, true, true, true, true, true, true, true, true] rfl rfl (any_of HT_.out (by kernel_rfl)) (fun _ _ _ h => h) (Or.inl ⟨by rfl, ?_⟩) ?_ ?_
                rotate_left
                ·intro w'
                 go_simp
                 with_reducible rfl
                rotate_left
                ·exact za_
                refine done_ (done_of HT_.out (by kernel_rfl)) ?_
                try go_wp2
                go_roundg k1
                case measure => have := HK1.out; omega
                case rel => exact ⟨(wrap64 (x12_1 + 1)), zq0, H', ⟨by have := HK1.out; omega⟩, ⟨by (with_reducible repeat (first | apply Kd.R_alloc | apply Kd.R_drewN | apply Kd.R_drew)); exact HO_11.out⟩, ⟨by repeat (first | (with_reducible first | exact HB.out | apply below_alloc | apply pw_below_drewN | apply below_drew1 | refine below_set ?_ GE467.out | refine below_set ?_ GE474.out) | exact HB.out)⟩⟩
               ·rw [if_neg c38] at H
                have c38b0 : (t476.toList == (rdOf ByteArray.empty y457 x12_1).toList) = false := beq_eq_false_iff_ne.mpr c38
                have c38b1 : (t476.toList != (rdOf ByteArray.empty y457 x12_1).toList) = true := bne_iff_ne.mpr c38
                subst hT_
                cases H
              ·rw [if_neg c36] at H
               have c36b0 : (t466 == 0) = false := beq_eq_false_iff_ne.mpr c36
               have c36b1 : (t466 != 0) = true := bne_iff_ne.mpr c36
               have H' := am_ H
               clear H
               obtain ⟨Ao53, co53, eo53⟩ := Kd.R_slice HO_11.out
               subst eo53
               have p461 : 0 ≤ (x12_1 : Int) := of_decide_eq_true zq3
               have q461 : x12_1 < (y457.length : Int) := of_decide_eq_true zq3
               obtain ⟨ad461, e461, hx461_0⟩ := Kd.at_string (Kd.R_reads' HO_11.out).2.2 x12_1 p461 q461
               cases e461
               replace p461 := eq_true p461
               replace q461 := eq_true q461
               try go_wp2_with (first | ((with_reducible refine gate_callee (f := 16) rfl ?_); refine goesL_ (some 57) rfl rfl Tryz.func16 (by kernel_rfl) rfl #[.string (rdOf ByteArray.empty y457 x12_1)] rfl zq4 ?_; (with_reducible refine (wide_Parse.calls k1 (rdOf ByteArray.empty y457 x12_1) t462 t463 t466 _ A31.out).mono ?_); rintro e w54 ⟨v464, rfl, ho0, hb⟩; refine ⟨_, rfl, ?_⟩; have n0_ := am_ (Kd.R_below (zq7 HO_11.out) hb); have n1_ := am_ (Kd.V_lower (Kd.V_mono (ok' := fun k_ => some k_ ≠ (.slice (some ad461) y457.length co53 : Value).ownBlock) ho0 (fun k_ hk_ => (Kd.fresh' (Kd.R_lt (zq7 HO_11.out)) k_ hk_))) (below_size zq2)); have n2_ := am_ (below_step zq2 hb); clear HO_11 HB; have HO_11 := n0_; have HO465 := n1_; have HB := n2_; clear n0_ n1_ n2_; (try clear hb); (try clear ho0)) | ((with_reducible refine gate_dst (N := 13) rfl ?_); refine box_event ?hg (N := 13) ?hd (cs := #[.bool false, .slice none 0 0]) (t := 33) ?hr ?_; (case hd => rfl); (case hg => rfl); (case hr => exact zq1); intro gb467 hg w55 hbox hb; have n0_ := am_ (Kd.R_below (zq7 HO_11.out) hb); have n1_ := am_ (Kd.V_below (Kd.V_elderB (zq5 HO465.out) gb467 (Nat.le_of_eq hg.symm)) hb); have n2_ := am_ (below_step zq2 hb); have n3_ := am_ (hbox); have n4_ := am_ ((by rw [hg]; exact (below_size zq2) : w.heap.size ≤ gb467)); clear HO_11 HO465 HB; have HO_11 := n0_; have HO465 := n1_; have HB := n2_; have BK467 := n3_; have GE467 := n4_; clear n0_ n1_ n2_ n3_ n4_; clear hb hbox hg; have hcz56_0 : w55.cell? ⟨gb467, 0, none⟩ = some (.bool false) := (blk_cell BK467.out 0).trans rfl; have hcz56_1 : w55.cell? ⟨gb467, 1, none⟩ = some (.slice none 0 0) := (blk_cell BK467.out 1).trans rfl; have hfz56_0 := blk_frozen BK467.out 0; have hfz56_1 := blk_frozen BK467.out 1; obtain ⟨Ao57, co57, eo57⟩ := Kd.V_slice HO465.out; subst eo57; have p468 : 0 ≤ (x12_1 : Int) := of_decide_eq_true zq3; have q468 : x12_1 < (y457.length : Int) := of_decide_eq_true zq3; obtain ⟨ad468, e468, hx468_0⟩ := Kd.at_string (Kd.R_reads' HO_11.out).2.2 x12_1 p468 q468; obtain rfl : ad461 = ad468 := (by injection e468); have hn468_0 : ad461.block ≠ gb467 := Kd.own_blk (Kd.R_ne HO_11.out BK467.out (by decide)); have hn468_1 : ad461.block ≠ gb467 := Kd.own_blk (Kd.R_ne HO_11.out BK467.out (by decide)); replace hx468_0 := (cell_far (p := ⟨gb467, 0, none⟩) zq93 (.bool t462)).trans hx468_0; replace hx468_0 := (cell_far (p := ⟨gb467, 1, none⟩) zq94 (.slice Ao57 t463.length co57)).trans hx468_0; clear hn468_0; clear hn468_1; replace p468 := eq_true p468; replace q468 := eq_true q468) | ((with_reducible refine gate_callee (f := 17) rfl ?_); refine goesL_ (some 65) rfl rfl Tryz.func17 (by kernel_rfl) rfl #[.string (rdOf ByteArray.empty y457 x12_1)] rfl zq4 ?_; (with_reducible refine (worldmintref05_Parse.calls k1 (rdOf ByteArray.empty y457 x12_1) t469 t470 t473 _ A32.out).mono ?_); rintro e w58 ⟨v471, rfl, ho0, hb⟩; refine ⟨_, rfl, ?_⟩; have n0_ := am_ (Kd.R_below zq100 hb); have n1_ := am_ (Kd.V_below (by (with_reducible repeat (first | apply Kd.V_alloc | apply Kd.V_drewN | apply Kd.V_drew)); exact (Kd.V_mono (Kd.V_far (p := ⟨gb467, 1, none⟩) (Kd.V_far (p := ⟨gb467, 0, none⟩) (Kd.V_mono HO465.out (fun k_ hk => (⟨hk, hk.2⟩ : _ ∧ k_ ≠ gb467))) (fun _ hk => hk.2) (.bool t462)) (fun _ hk => hk.2) (.slice Ao57 t463.length co57)) (fun _ h_ => h_.1))) hb); have n2_ := am_ (Kd.V_lower (Kd.V_mono (ok' := fun k_ => some k_ ≠ (.slice (some ad461) y457.length co53 : Value).ownBlock ∧ k_ ≠ gb467) ho0 (fun k_ hk_ => ⟨(Kd.fresh' (Kd.R_lt zq100) k_ hk_), (Kd.freshB (g := gb467) (o := .cells #[.bool t462, .slice Ao57 t463.length co57] 33 (0, 0)) (zq96 BK467.out) k_ hk_)⟩)) (below_size zq97)); have n3_ := am_ (blk_below (g := gb467) (o := .cells #[.bool t462, .slice Ao57 t463.length co57] 33 (0, 0)) (zq96 BK467.out) hb); have n4_ := am_ (below_step zq97 hb); clear HO_11 HO465 BK467 HB; have HO_11 := n0_; have HO465 := n1_; have HO472 := n2_; have BK467 := n3_; have HB := n4_; clear n0_ n1_ n2_ n3_ n4_; (try clear hb); (try clear ho0)) | ((with_reducible refine gate_dst (N := 15) rfl ?_); refine box_event ?hg (N := 15) ?hd (cs := #[.bool false, .slice none 0 0]) (t := 25) ?hr ?_; (case hd => rfl); (case hg => rfl); (case hr => exact zq1); intro gb474 hg w59 hbox hb; have n0_ := am_ (Kd.R_below (zq7 HO_11.out) hb); have n1_ := am_ (Kd.V_below (Kd.V_elderB (zq5 HO465.out) gb474 (Nat.le_of_eq hg.symm)) hb); have n2_ := am_ (Kd.V_below (Kd.V_elderB (zq5 HO472.out) gb474 (Nat.le_of_eq hg.symm)) hb); have n3_ := am_ (blk_below (g := gb467) (o := .cells #[.bool t462, .slice Ao57 t463.length co57] 33 (0, 0)) (zq9 BK467.out) hb); have n4_ := am_ (below_step zq97 hb); have n5_ := am_ (hbox); have n6_ := am_ ((by rw [hg]; exact (below_size zq97) : w.heap.size ≤ gb474)); have n7_ := am_ ((by rw [hg]; exact Nat.ne_of_lt (blk_lt (g := gb467) (zq9 BK467.out)) : gb467 ≠ gb474)); have n8_ := am_ ((by rw [hg]; exact Nat.ne_of_gt (blk_lt (g := gb467) (zq9 BK467.out)) : gb474 ≠ gb467)); clear HO_11 HO465 HO472 BK467 HB; have HO_11 := n0_; have HO465 := n1_; have HO472 := n2_; have BK467 := n3_; have HB := n4_; have BK474 := n5_; have GE474 := n6_; have NB467_474 := n7_; have NB474_467 := n8_; clear n0_ n1_ n2_ n3_ n4_ n5_ n6_ n7_ n8_; clear hb hbox hg; have hnb60 := NB474_467.out; have hnc60 := NB467_474.out; have hcz61_0 : w59.cell? ⟨gb474, 0, none⟩ = some (.bool false) := (blk_cell BK474.out 0).trans rfl; have hcz61_1 : w59.cell? ⟨gb474, 1, none⟩ = some (.slice none 0 0) := (blk_cell BK474.out 1).trans rfl; have hfz61_0 := blk_frozen BK474.out 0; have hfz61_1 := blk_frozen BK474.out 1; obtain ⟨Ao62, co62, eo62⟩ := Kd.V_slice HO472.out; subst eo62))
               have n0_ : Aside0 (Kd.R Kd.string 9 ((w59.setCell ⟨gb474, 0, none⟩ (.bool t469)).setCell ⟨gb474, 1, none⟩ (.slice Ao62 t470.length co62)) w.heap.size (fun _ => True) (.slice (some ad461) y457.length co53) y457) := ⟨by (with_reducible repeat (first | apply Kd.R_alloc | apply Kd.R_drewN | apply Kd.R_drew)); exact Kd.R_mono (Kd.R_far (p := ⟨gb474, 1, none⟩) (Kd.R_far (p := ⟨gb474, 0, none⟩) (Kd.R_types HO_11.out BK474.out (by decide)) (fun _ hk => hk.2) (.bool t469)) (fun _ hk => hk.2) (.slice Ao62 t470.length co62)) (fun _ hk => trivial)⟩
               have n1_ : Aside0 (Kd.V (Kd.int .u32) 81 ((w59.setCell ⟨gb474, 0, none⟩ (.bool t469)).setCell ⟨gb474, 1, none⟩ (.slice Ao62 t470.length co62)) w.heap.size (fun k_ => some k_ ≠ (.slice (some ad461) y457.length co53 : Value).ownBlock ∧ k_ ≠ gb467 ∧ k_ ≠ gb474) (.slice Ao57 t463.length co57) t463) := ⟨by (with_reducible repeat (first | apply Kd.V_alloc | apply Kd.V_drewN | apply Kd.V_drew)); exact Kd.V_mono (Kd.V_far (p := ⟨gb474, 1, none⟩) (Kd.V_far (p := ⟨gb474, 0, none⟩) (Kd.V_mono HO465.out (fun k_ hk => (⟨hk, hk.2⟩ : _ ∧ k_ ≠ gb474))) (fun _ hk => hk.2) (.bool t469)) (fun _ hk => hk.2) (.slice Ao62 t470.length co62)) (fun _ hk => ⟨hk.1.1.1, ⟨hk.1.1.2, hk.1.2⟩⟩)⟩
               have n2_ : Aside0 (Kd.V (Kd.int .i64) 3 ((w59.setCell ⟨gb474, 0, none⟩ (.bool t469)).setCell ⟨gb474, 1, none⟩ (.slice Ao62 t470.length co62)) w.heap.size (fun k_ => some k_ ≠ (.slice (some ad461) y457.length co53 : Value).ownBlock ∧ k_ ≠ gb467 ∧ k_ ≠ gb474) (.slice Ao62 t470.length co62) t470) := ⟨by (with_reducible repeat (first | apply Kd.V_alloc | apply Kd.V_drewN | apply Kd.V_drew)); exact Kd.V_mono (Kd.V_far (p := ⟨gb474, 1, none⟩) (Kd.V_far (p := ⟨gb474, 0, none⟩) (Kd.V_mono HO472.out (fun k_ hk => (⟨hk, hk.2⟩ : _ ∧ k_ ≠ gb474))) (fun _ hk => hk.2) (.bool t469)) (fun _ hk => hk.2) (.slice Ao62 t470.length co62)) (fun _ hk => ⟨hk.1.1.1, ⟨hk.1.1.2, hk.1.2⟩⟩)⟩
               have n3_ : Aside0 (((w59.setCell ⟨gb474, 0, none⟩ (.bool t469)).setCell ⟨gb474, 1, none⟩ (.slice Ao62 t470.length co62)).heap[gb467]? = some (.cells #[.bool t462, .slice Ao57 t463.length co57] 33 (0, 0))) := ⟨by (with_reducible repeat (first | refine blk_drewN ?_ _ | refine blk_drew ?_ | refine blk_alloc ?_ _)); refine blk_far ?_ NB467_474.out _; (with_reducible repeat (first | refine blk_drewN ?_ _ | refine blk_drew ?_ | refine blk_alloc ?_ _)); refine blk_far ?_ NB467_474.out _; (with_reducible repeat (first | refine blk_drewN ?_ _ | refine blk_drew ?_ | refine blk_alloc ?_ _)); exact BK467.out⟩
               have n4_ : Aside0 (((w59.setCell ⟨gb474, 0, none⟩ (.bool t469)).setCell ⟨gb474, 1, none⟩ (.slice Ao62 t470.length co62)).heap[gb474]? = some (.cells #[.bool t469, .slice Ao62 t470.length co62] 25 (0, 0))) := ⟨by (with_reducible repeat (first | refine blk_drewN ?_ _ | refine blk_drew ?_ | refine blk_alloc ?_ _)); refine blk_put (cs := #[.bool t469, .slice none 0 0]) ?_ 1 _ rfl; (with_reducible repeat (first | refine blk_drewN ?_ _ | refine blk_drew ?_ | refine blk_alloc ?_ _)); refine blk_put (cs := #[.bool false, .slice none 0 0]) ?_ 0 _ rfl; (with_reducible repeat (first | refine blk_drewN ?_ _ | refine blk_drew ?_ | refine blk_alloc ?_ _)); exact BK474.out⟩
               have n5_ : Aside0 (Below w.heap.size w ((w59.setCell ⟨gb474, 0, none⟩ (.bool t469)).setCell ⟨gb474, 1, none⟩ (.slice Ao62 t470.length co62))) := ⟨by repeat (first | (with_reducible first | exact HB.out | apply below_alloc | apply pw_below_drewN | apply below_drew1 | refine below_set ?_ GE467.out | refine below_set ?_ GE474.out) | exact HB.out)⟩
               
               generalize ((w59.setCell ⟨gb474, 0, none⟩ (.bool t469)).setCell ⟨gb474, 1, none⟩ (.slice Ao62 t470.length co62)) = w63 at n0_ n1_ n2_ n3_ n4_ n5_ ⊢
               have HO_11 := n0_; have HO465 := n1_; have HO472 := n2_; have BK467 := n3_; have BK474 := n4_; have HB := n5_; clear n0_ n1_ n2_ n3_ n4_ n5_; replace HO_11 := am_ (Kd.R_drew HO_11.out); replace HO465 := am_ (Kd.V_drew HO465.out); replace HO472 := am_ (Kd.V_drew HO472.out); replace BK467 := am_ (blk_drew BK467.out); replace BK474 := am_ (blk_drew BK474.out); replace HB := am_ (below_drew1 HB.out)
               refine start_ (n := 22) (S := fun w' => w'.cell? ⟨gb467, 0, none⟩ = some (.bool t462) ∧ w'.cell? ⟨gb467, 1, none⟩ = some (.slice Ao57 t463.length co57) ∧ w'.cell? ⟨gb474, 0, none⟩ = some (.bool t469) ∧ w'.cell? ⟨gb474, 1, none⟩ = some (.slice Ao62 t470.length co62)) (ds := []) #[false, false, false, false, false, false, false, false, false, false, false, false, false, false, false, false, false, false, false, false, false, false] (by kernel_rfl) rfl rfl ⟨(blk_cell BK467.out 0).trans rfl, (blk_cell BK467.out 1).trans rfl, (blk_cell BK474.out 0).trans rfl, (blk_cell BK474.out 1).trans rfl⟩ (fun hHeld => ?_); refine with_tabW worldmintlaw05_WideTexts.tab9 worldmintlaw05_WideTexts.bits9 (fun HT_ HW_ => ?_)
               generalize w63.drew = w64 at HO_11 HO465 HO472 BK467 BK474 HB hHeld ⊢
               refine pure_ (i := 0) (N := some 68) (v := ?_) (a' := ?_) #[true, false, false, false, false, false, false, false, false, false, false, false, false, false, false, false, false, false, false, false, false, false] rfl rfl (any_of HT_.out (by kernel_rfl)) (fun _ _ _ h => h) (Or.inl ⟨by rfl, ?_⟩) ?_ ?_
               rotate_left
               ·intro w'
                go_simp
                with_reducible rfl
               rotate_left
               ·exact za_
               refine pure_ (i := 1) (N := some 69) (v := ?_) (a' := ?_) #[true, true, false, false, false, false, false, false, false, false, false, false, false, false, false, false, false, false, false, false, false, false] rfl rfl (any_of HT_.out (by kernel_rfl)) (fun _ _ _ h => h) (Or.inl ⟨by rfl, ?_⟩) ?_ ?_
               rotate_left
               ·intro w'
                go_simp
                with_reducible rfl
               rotate_left
               ·exact za_
               refine pure_ (i := 2) (N := some 70) (v := ?_) (a' := ?_) #[true, true, true, false, false, false, false, false, false, false, false, false, false, false, false, false, false, false, false, false, false, false] rfl rfl (any_of HT_.out (by kernel_rfl)) (fun _ _ _ h => h) (Or.inl ⟨by rfl, ?_⟩) ?_ ?_
               rotate_left
               ·intro w'
                go_simp
                with_reducible rfl
               rotate_left
               ·exact za_
               refine pure_ (i := 3) (N := some 71) (v := ?_) (a' := ?_) #[true, true, true, true, false, false, false, false, false, false, false, false, false, false, false, false, false, false, false, false, false, false] rfl rfl (any_of HT_.out (by kernel_rfl)) (fun _ _ _ h => h) (Or.inl ⟨by rfl, ?_⟩) ?_ ?_
               rotate_left
               ·intro w'
                go_simp
                with_reducible rfl
               rotate_left
               ·exact za_
               refine take_ (i := 4) (N := some 72) (v := ?_) (a' := ?_) #[true, true, true, true, true, false, false, false, false, false, false, false, false, false, false, false, false, false, false, false, false, false] rfl rfl (take_ofW HT_.out HW_.out (by kernel_rfl)) (fun _ _ _ h => h) (Or.inl ⟨by rfl, ?_⟩) hHeld ?_ ?_
               rotate_left
               ·rintro w' ⟨s0, s1, s2, s3⟩
                go_simp
                with_reducible rfl
               rotate_left
               ·exact za_
               refine take_ (i := 5) (N := some 73) (v := ?_) (a' := ?_) #[true, true, true, true, true, true, false, false, false, false, false, false, false, false, false, false, false, false, false, false, false, false] rfl rfl (take_ofW HT_.out HW_.out (by kernel_rfl)) (fun _ _ _ h => h) (Or.inl ⟨by rfl, ?_⟩) hHeld ?_ ?_
               rotate_left
               ·rintro w' ⟨s0, s1, s2, s3⟩
                go_simp
                with_reducible rfl
               rotate_left
               ·exact za_
               refine one_ (i := 6) (N := some 74) #[true, true, true, true, true, true, true, false, false, false, false, false, false, false, false, false, false, false, false, false, false, false] rfl rfl (one_of HT_.out (by kernel_rfl)) (by decide) (fun K hK => ?_)
               refine goes_ Tryz.func18 (by kernel_rfl) rfl #[.agg #[.bool t462, .slice Ao57 t463.length co57], .agg #[.bool t469, .slice Ao62 t470.length co62]] (by rfl) rfl rfl zq4 ?_
               with_reducible refine (worldmintlaw05_equal.calls k1 t462 _ _ t463 t469 _ _ t470 true _ ?side1 ?side2 ?side3 ?side4 A34.out zq98).mono ?_
               (case side1 => exact (zq31 HO465.out))
               (case side2 => exact (Kd.V_reads' HO465.out).2.1)
               (case side3 => exact (zq31 HO472.out))
               (case side4 => exact (Kd.V_reads' HO472.out).2.1)
               rintro e w65 ⟨rfl, hb⟩
               refine ⟨_, rfl, ?_⟩
               replace HO_11 := am_ (Kd.R_below (zq7 HO_11.out) hb); replace BK467 := am_ (blk_below (g := gb467) (o := .cells #[.bool t462, .slice Ao57 t463.length co57] 33 (0, 0)) (zq9 BK467.out) hb); replace BK474 := am_ (blk_below (g := gb474) (o := .cells #[.bool t469, .slice Ao62 t470.length co62] 25 (0, 0)) (zq9 BK474.out) hb); replace HB := am_ (below_step zq99 hb); (try clear hb)
               refine hK.out _ _ ⟨(blk_cell BK467.out 0).trans rfl, (blk_cell BK467.out 1).trans rfl, (blk_cell BK474.out 0).trans rfl, (blk_cell BK474.out 1).trans rfl⟩ (fun hHeld => ?_)
               clear hK K
               refine norm_ (a' := ?_) ?_ ?_
               rotate_left
               ·show Act.put _ (some 74) _ = _
                exact za_
               refine pure_ (i := 7) (N := some 75) (v := ?_) (a' := ?_) #[true, true, true, true, true, true, true, true, false, false, false, false, false, false, false, false, false, false, false, false, false, false] rfl rfl (any_of HT_.out (by kernel_rfl)) (fun _ _ _ h => h) (Or.inl ⟨by rfl, ?_⟩) ?_ ?_
               rotate_left
               ·intro w'
                go_simp
                with_reducible rfl
               rotate_left
               ·exact za_
               refine pure_ (i := 8) (N := some 76) (v := ?_) (a' := ?_) #[true, true, true, true, true, true, true, true, true, false, false, false, false, false, false, false, false, false, false, false, false, false] rfl rfl (any_of HT_.out (by kernel_rfl)) (fun _ _ _ h => h) (Or.inl ⟨by rfl, ?_⟩) ?_ ?_
               rotate_left
               ·intro w'
                go_simp
                with_reducible rfl
               rotate_left
               ·exact za_
               refine pure_ (i := 9) (N := some 77) (v := ?_) (a' := ?_) #[true, true, true, true, true, true, true, true, true, true, false, false, false, false, false, false, false, false, false, false, false, false] rfl rfl (any_of HT_.out (by kernel_rfl)) (fun _ _ _ h => h) (Or.inl ⟨by rfl, ?_⟩) ?_ ?_
               rotate_left
               ·intro w'
                go_simp
                with_reducible rfl
               rotate_left
               ·exact za_
               refine pure_ (i := 10) (N := some 78) (v := ?_) (a' := ?_) #[true, true, true, true, true, true, true, true, true, true, true, false, false, false, false, false, false, false, false, false, false, false] rfl rfl (any_of HT_.out (by kernel_rfl)) (fun _ _ _ h => h) (Or.inl ⟨by rfl, ?_⟩) ?_ ?_
               rotate_left
               ·intro w'
                go_simp
                with_reducible rfl
               rotate_left
               ·exact za_
               refine pure_ (i := 11) (N := some 79) (v := ?_) (a' := ?_) #[true, true, true, true, true, true, true, true, true, true, true, true, false, false, false, false, false, false, false, false, false, false] rfl rfl (any_of HT_.out (by kernel_rfl)) (fun _ _ _ h => h) (Or.inl ⟨by rfl, ?_⟩) ?_ ?_
               rotate_left
               ·intro w'
                go_simp
                with_reducible rfl
               rotate_left
               ·exact za_
               refine pure_ (i := 12) (N := some 80) (v := ?_) (a' := ?_) #[true, true, true, true, true, true, true, true, true, true, true, true, true, false, false, false, false, false, false, false, false, false] rfl rfl (any_of HT_.out (by kernel_rfl)) (fun _ _ _ h => h) (Or.inl ⟨by rfl, ?_⟩) ?_ ?_
               rotate_left
               ·intro w'
                go_simp
                with_reducible rfl
               rotate_left
               ·exact za_
               refine pure_ (i := 13) (N := some 81) (v := undef) (a' := ?_) #[true, true, true, true, true, true, true, true, true, true, true, true, true, true, false, false, false, false, false, false, false, false] rfl rfl (any_of HT_.out (by kernel_rfl)) (fun _ _ _ h => h) (Or.inr ⟨by rfl, rfl⟩) ?_ ?_
               rotate_left
               ·exact za_
               refine pure_ (i := 14) (N := some 82) (v := undef) (a' := ?_) #[true, true, true, true, true, true, true, true, true, true, true, true, true, true, true, false, false, false, false, false, false, false] rfl rfl (any_of HT_.out (by kernel_rfl)) (fun _ _ _ h => h) (Or.inr ⟨by rfl, rfl⟩) ?_ ?_
               rotate_left
               ·exact za_
               refine pure_ (i := 15) (N := some 83) (v := undef) (a' := ?_) #[true, true, true, true, true, true, true, true, true, true, true, true, true, true, true, true, false, false, false, false, false, false] rfl rfl (any_of HT_.out (by kernel_rfl)) (fun _ _ _ h => h) (Or.inr ⟨by rfl, rfl⟩) ?_ ?_
               rotate_left
               ·exact za_
               refine pure_ (i := 16) (N := some 84) (v := undef) (a' := ?_) #[true, true, true, true, true, true, true, true, true, true, true, true, true, true, true, true, true, false, false, false, false, false] rfl rfl (any_of HT_.out (by kernel_rfl)) (fun _ _ _ h => h) (Or.inr ⟨by rfl, rfl⟩) ?_ ?_
               rotate_left
               ·exact za_
               refine pure_ (i := 17) (N := some 85) (v := undef) (a' := ?_) #[true, true, true, true, true, true, true, true, true, true, true, true, true, true, true, true, true, true, false, false, false, false] rfl rfl (any_of HT_.out (by kernel_rfl)) (fun _ _ _ h => h) (Or.inr ⟨by rfl, rfl⟩) ?_ ?_
               rotate_left
               ·exact za_
               refine pure_ (i := 18) (N := some 86) (v := undef) (a' := ?_) #[true, true, true, true, true, true, true, true, true, true, true, true, true, true, true, true, true, true, true, false, false, false] rfl rfl (any_of HT_.out (by kernel_rfl)) (fun _ _ _ h => h) (Or.inr ⟨by rfl, rfl⟩) ?_ ?_
               rotate_left
               ·exact za_
               refine pure_ (i := 19) (N := some 87) (v := undef) (a' := ?_) #[true, true, true, true, true, true, true, true, true, true, true, true, true, true, true, true, true, true, true, true, false, false] rfl rfl (any_of HT_.out (by kernel_rfl)) (fun _ _ _ h => h) (Or.inr ⟨by rfl, rfl⟩) ?_ ?_
               rotate_left
               ·exact za_
               refine pure_ (i := 20) (N := some 88) (v := ?_) (a' := ?_) #[true, true, true, true, true, true, true, true, true, true, true, true, true, true, true, true, true, true, true, true, true, false] rfl rfl (any_of HT_.out (by kernel_rfl)) (fun _ _ _ h => h) (Or.inl ⟨by rfl, ?_⟩) ?_ ?_
               rotate_left
               ·intro w'
                go_simp
                with_reducible rfl
               rotate_left
               ·exact za_
               refine pure_ (i := 21) (N := some 89) (v := ?_) (a' := ?_) #[true, true, true, true, true, true, true, true, true, true, true, true, true, true, true, true, true, true, true, true, true, true] rfl rfl (any_of HT_.out (by kernel_rfl)) (fun _ _ _ h => h) (Or.inl ⟨by rfl, ?_⟩) ?_ ?_
               rotate_left
               ·intro w'
                go_simp
                with_reducible rfl
               rotate_left
               ·exact za_
               refine done_ (done_of HT_.out (by kernel_rfl)) ?_
               try go_wp2
               go_roundg k1
               case measure => have := HK1.out; omega
               case rel => exact ⟨(wrap64 (x12_1 + 1)), zq0, H', ⟨by have := HK1.out; omega⟩, ⟨by (with_reducible repeat (first | apply Kd.R_alloc | apply Kd.R_drewN | apply Kd.R_drew)); exact HO_11.out⟩, ⟨by repeat (first | (with_reducible first | exact HB.out | apply below_alloc | apply pw_below_drewN | apply below_drew1 | refine below_set ?_ GE467.out | refine below_set ?_ GE474.out) | exact HB.out)⟩⟩
             ·replace c35 := Bool.eq_false_iff.mpr c35
              subst c35
              have H1 : (some false) = some r := by rw [if_neg (show ¬ (false = true) by decide)] at H; exact H
              clear H
              have H := H1
              clear H1
              subst hT_
              cases H
            ·rw [if_neg c33] at H
             have c33b0 : (t466 == t473) = false := beq_eq_false_iff_ne.mpr c33
             have c33b1 : (t466 != t473) = true := bne_iff_ne.mpr c33
             subst hT_
             cases H
           ·rw [if_neg c30] at H
            exact absurd H (by simp)
          ·rw [if_neg c29] at H
           have c29b0 : decide (x12_1 < (y457.length : Int)) = false := decide_eq_false c29
           clear c29
           replace H := Option.bind_eq_some_iff.mp H
           obtain ⟨t460, A660, H⟩ := H
           replace H : (some t460) = some r := H
           have A66 := am_ A660
           clear A660
           obtain rfl := Option.some.inj H
           obtain ⟨Ao67, co67, eo67⟩ := Kd.R_slice HO_11.out
           subst eo67
           go_wp2_with (first | ((with_reducible refine gate_callee (f := 20) rfl ?_); refine goesL_ (some 90) rfl rfl Tryz.func20 (by kernel_rfl) rfl #[] rfl zq4 ?_; (with_reducible refine (worldmintlaw05_lives.calls k1  t460 _ A66.out (by first | exact hG | exact GOK.of_below hG zq2 | (repeat (first | exact hG | apply GOK.drewN | apply GOK.drew))) (by first | exact hT_ | rfl)).mono ?_); rintro e w68 ⟨rfl, hb⟩; refine ⟨_, rfl, ?_⟩; replace HB := am_ (below_step zq2 hb); (try clear hb)))
           go_ret
           exact ⟨by first | rfl | (simp [errW_none, errW_some] <;> rfl) | (simp only [← hji12]; first | rfl | (simp [errW_none, errW_some] <;> rfl)) | (simp [*, errW_none, errW_some] <;> rfl), by repeat (first | (with_reducible first | exact HB.out | apply below_alloc | apply pw_below_drewN | apply below_drew1) | exact HB.out)⟩
       ·rw [if_neg c18] at H
        exact absurd H (by simp)
      ·rw [if_neg c15] at H
       exact absurd H (by simp)
     ·rw [if_neg c14] at H
      exact absurd H (by simp)
    ·rw [if_neg c13] at H
     exact absurd H (by simp)
   ·rw [if_neg c11] at H
    exact absurd H (by simp)
  ·rw [if_neg c10] at H
   exact absurd H (by simp)
 ·rw [if_neg c9] at H
  exact absurd H (by simp)

/-- THE ONE PURE STATEMENT of worldmintlaw05_WideTexts: yours. -/
def worldmintlaw05_WideTexts.Pure : Prop := ∀ (a0 : ByteArray) (l1 : List Int) (a2 : Int) (a3 : Int), a0.size ≤ 140737488351232 → l1.length ≤ maxLen → l1.length * 8 ≤ 140737488351232 → (∀ x ∈ l1, (Lit.int .i64 x).wf = true) → (Lit.int .i64 a2).wf = true → (Lit.int .u8 a3).wf = true → ∃ k, worldmintlaw05_WideTexts.f k a0 l1 a2 a3 = some true
theorem worldmintlaw05_WideTexts.walk (P : worldmintlaw05_WideTexts.Pure) (a0 : ByteArray) (a1 : Option Addr) (len1 cap1 : Nat) (z1 : List Int) (a2 : Int) (a3 : Int) (w : World) (w0 : a0.size ≤ 140737488351232) (w1 : (a1 = none ∧ len1 = 0 ∧ cap1 = 0 ∧ z1 = []) ∨ ∃ x, a1 = some x ∧ len1 ≤ cap1 ∧ cap1 ≤ maxLen ∧ z1.length = cap1 ∧ (∀ i, i < z1.length → w.cell? (x.add i) = some (.int .i64 (z1.getD i 0))) ∧ ∀ n ∈ z1, (Lit.int .i64 n).wf = true) (y1 : len1 * 8 ≤ 140737488351232) (w2 : (Lit.int .i64 a2).wf = true) (w3 : (Lit.int .u8 a3).wf = true) (hG : GOK w) :
  Calls Tryz.prog 3 #[.string a0, .slice a1 len1 cap1, .int .i64 a2, .int .u8 a3] w fun e w' => e = .returned (.bool true) ∧ Below w.heap.size w w' := by
 obtain ⟨l1, rfl, hr1, hm1, hw1, hc1⟩ := ReadsInt.ofRowC w1
 obtain ⟨k, h⟩ := P a0 l1 a2 a3 w0 hm1 y1 hw1 w2 w3
 refine (worldmintlaw05_WideTexts.calls k a0 _ _ l1 a2 a3 true w (Kd.C_of_reads (d := (0 : Int)) (h1 := fun _ => rfl) hr1) hc1 h hG rfl).mono ?_
 rintro e w' ⟨rfl, hd⟩
 exact ⟨rfl, hd⟩

end Go.Proofs.YtlceokefdihdkaaGreatDoor.X
