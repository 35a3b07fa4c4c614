-- Written by a program of this session (xprint) out of the translation: Lean checks it.
import Derived.Test.YtlceokefdihdkaaGreatDoorXx0
import Derived.Test.YtlceokefdihdkaaGreatDoorXx3
import Derived.Test.YtlceokefdihdkaaGreatDoorXx4
import Derived.Test.YtlceokefdihdkaaGreatDoorXx5
import Derived.Test.YtlceokefdihdkaaGreatDoorXx8
import Derived.Test.YtlceokefdihdkaaGreatDoorXx9
import Derived.Test.YtlceokefdihdkaaGreatDoorXx10
namespace Go.Proofs.YtlceokefdihdkaaGreatDoor.X
open Go.RowKit Go.Proofs.YtlceokefdihdkaaGreatDoorW.PrintWords Go.Proofs.YtlceokefdihdkaaGreatDoorW.PrintLast Go.Proofs.YtlceokefdihdkaaGreatDoorW.PrintMore
attribute [local go_sem] max2_int min2_int max_two min_two max_three min_three max_four min_four   -- for this text's walks alone
set_option linter.unusedVariables false
set_option linter.unusedSimpArgs false

/-! ### worldmintlaw05_WideSums: function 7 -/
def worldmintlaw05_WideSums.f (k : Nat) (l0 : List Int) : Option (Bool) := (worldmintref05_Number.f k l0 0).bind fun bt504 => ((worldmintref05_Number.f k l0 6).bind fun bt509 => ((worldmintlaw05_wider.f k bt504.1 bt504.2).bind fun bt514 => ((worldmintlaw05_wider.f k bt509.1 bt509.2).bind fun bt520 => ((wide_Add.f k bt514.1 bt514.2.1 bt520.1 bt520.2.1).bind fun bt526 => ((wide_Sub.f k bt514.1 bt514.2.1 bt520.1 bt520.2.1).bind fun bt532 => (if bt514.2.2 = true then (if bt520.2.2 = true then (if bt526.2.2 = 0 then (if bt532.2.2 = 0 then ((worldmintref05_Add.f k bt504.1 bt504.2 bt509.1 bt509.2).bind fun bt538 => ((worldmintlaw05_equal.f k bt526.1 bt526.2.1 bt538.1 bt538.2).bind fun t542 => (if t542 = true then ((worldmintref05_Sub.f k bt504.1 bt504.2 bt509.1 bt509.2).bind fun bt543 => ((worldmintlaw05_equal.f k bt532.1 bt532.2.1 bt543.1 bt543.2).bind fun t547 => (if t547 = true then ((worldmintlaw05_equal.f k bt514.1 bt514.2.1 bt504.1 bt504.2).bind fun t548 => (if t548 = true then ((worldmintlaw05_equal.f k bt520.1 bt520.2.1 bt509.1 bt509.2).bind fun t549 => (if t549 = true then ((worldmintlaw05_lives.f k).bind fun t550 => (some t550)) else (some false))) else (some false))) else (some false)))) else (some false)))) else (some false)) else (some false)) else (some false)) else (some false)))))))
theorem worldmintlaw05_WideSums.mono : ∀ a0 k, LeO (worldmintlaw05_WideSums.f k a0) (worldmintlaw05_WideSums.f (k + 1) a0) := by
 intro a0 k
 unfold worldmintlaw05_WideSums.f
 repeat' first
   | (with_reducible exact wide_Add.mono _ _ _ _ _)
   | (with_reducible exact wide_Sub.mono _ _ _ _ _)
   | (with_reducible exact worldmintlaw05_equal.mono _ _ _ _ _)
   | (with_reducible exact worldmintlaw05_lives.mono _)
   | (with_reducible exact worldmintlaw05_wider.mono _ _ _)
   | (with_reducible exact worldmintref05_Add.mono _ _ _ _ _)
   | (with_reducible exact worldmintref05_Number.mono _ _ _)
   | (with_reducible exact worldmintref05_Sub.mono _ _ _ _ _)
   | (with_reducible exact LeO.refl _)
   | (with_reducible exact LeO.none _)
   | (with_reducible refine LeO.ite ?_ ?_)
   | (with_reducible refine LeO.bind ?_ (fun _ => ?_))
   | exact wide_Add.mono _ _ _ _ _
   | exact wide_Sub.mono _ _ _ _ _
   | exact worldmintlaw05_equal.mono _ _ _ _ _
   | exact worldmintlaw05_lives.mono _
   | exact worldmintlaw05_wider.mono _ _ _
   | exact worldmintref05_Add.mono _ _ _ _ _
   | exact worldmintref05_Number.mono _ _ _
   | exact worldmintref05_Sub.mono _ _ _ _ _
   | exact LeO.none _
   | refine LeO.ite ?_ ?_
   | refine LeO.bind ?_ (fun _ => ?_)
def worldmintlaw05_WideSums.T7 : Bool × List (List Nat × List Nat) := (true, [([], []), ([0], [0]), ([1], [1]), ([1, 2], [1, 2]), ([3, 1], [3]), ([4], [4]), ([5, 4], [4, 5]), ([4, 6], [4, 6]), ([7, 4], [7]), ([8], [8]), ([9, 8], [8, 9]), ([8, 10], [8, 10]), ([11, 8], [11]), ([12], [12]), ([12], [12]), ([12], [12]), ([14, 15, 12, 12], [12, 14, 15]), ([13, 16, 16, 12], [12, 13, 16]), ([12, 17], [12, 17]), ([18, 17], [18]), ([19], [19]), ([19], [19]), ([19], [19]), ([21, 22, 19, 19], [19, 21, 22]), ([20, 23, 23, 19], [19, 20, 23]), ([19, 24], [19, 24]), ([25, 24], [25]), ([26], [26]), ([26], [26]), ([27, 28, 26, 26], [26, 27, 28]), ([26, 29], [26, 29]), ([30, 29], [30]), ([31], [31]), ([31], [31]), ([32, 33, 31, 31], [31, 32, 33]), ([31, 34], [31, 34]), ([35, 34], [35]), ([36, 36], [36]), ([36, 37], [36, 37]), ([38, 37, 0, 1, 2, 3, 4, 5, 6, 7, 8, 9, 10, 11, 12, 13, 14, 15, 16, 17, 18, 19, 20, 21, 22, 23, 24, 25, 26, 27, 28, 29, 30, 31, 32, 33, 34, 35, 36, 37, 38], [38])])
def worldmintlaw05_WideSums.B7 : List Nat := [0, 1, 3, 7, 15, 31, 63, 127, 255, 511, 1023, 2047, 4095, 8191, 8191, 8191, 57343, 131071, 262143, 524287, 1048575, 1048575, 1048575, 7340031, 16777215, 33554431, 67108863, 134217727, 134217727, 536870911, 1073741823, 2147483647, 4294967295, 4294967295, 17179869183, 34359738367, 68719476735, 137438953471, 274877906943, 549755813887]
theorem worldmintlaw05_WideSums.tab7 : rtab .any (opsOf Tryz.f7 7) = worldmintlaw05_WideSums.T7 := by kernel_rfl
theorem worldmintlaw05_WideSums.bits7 : waitsOk worldmintlaw05_WideSums.T7.2 worldmintlaw05_WideSums.B7 = true := by kernel_rfl
set_option maxHeartbeats 8000000 in
set_option maxRecDepth 100000 in
theorem worldmintlaw05_WideSums.calls (k : Nat) (A0 : Option Addr) (c0 : Nat) (l0 : List Int) (r : Bool) (w : World) (hr0 : Kd.C (Kd.int .i64) w A0 l0.length l0) (hc0 : l0.length ≤ c0) (h : worldmintlaw05_WideSums.f k l0 = some r) (hG : GOK w) (hT_ : r = true) :
  Calls Tryz.prog 7 #[.slice A0 l0.length c0] w fun e w' => e = .returned (.bool r) ∧ Below w.heap.size w w' := by
 have hu25 := Tryz.underlying25
 have hu33 := Tryz.underlying33
 have HR0 := am_ hr0
 have HC0 := am_ hc0
 clear hr0 hc0
 have HB := am_ (Below.refl w.heap.size w)
 have H : ((worldmintref05_Number.f k l0 0).bind fun bt504 => ((worldmintref05_Number.f k l0 6).bind fun bt509 => ((worldmintlaw05_wider.f k bt504.1 bt504.2).bind fun bt514 => ((worldmintlaw05_wider.f k bt509.1 bt509.2).bind fun bt520 => ((wide_Add.f k bt514.1 bt514.2.1 bt520.1 bt520.2.1).bind fun bt526 => ((wide_Sub.f k bt514.1 bt514.2.1 bt520.1 bt520.2.1).bind fun bt532 => (if bt514.2.2 = true then (if bt520.2.2 = true then (if bt526.2.2 = 0 then (if bt532.2.2 = 0 then ((worldmintref05_Add.f k bt504.1 bt504.2 bt509.1 bt509.2).bind fun bt538 => ((worldmintlaw05_equal.f k bt526.1 bt526.2.1 bt538.1 bt538.2).bind fun t542 => (if t542 = true then ((worldmintref05_Sub.f k bt504.1 bt504.2 bt509.1 bt509.2).bind fun bt543 => ((worldmintlaw05_equal.f k bt532.1 bt532.2.1 bt543.1 bt543.2).bind fun t547 => (if t547 = true then ((worldmintlaw05_equal.f k bt514.1 bt514.2.1 bt504.1 bt504.2).bind fun t548 => (if t548 = true then ((worldmintlaw05_equal.f k bt520.1 bt520.2.1 bt509.1 bt509.2).bind fun t549 => (if t549 = true then ((worldmintlaw05_lives.f k).bind fun t550 => (some t550)) else (some false))) else (some false))) else (some false)))) else (some false)))) else (some false)) else (some false)) else (some false)) else (some false)))))))) = some r := h
 clear h
 replace H := Option.bind_eq_some_iff.mp H
 obtain ⟨⟨t504, t505⟩, A20, H⟩ := H
 replace H : ((worldmintref05_Number.f k l0 6).bind fun bt509 => ((worldmintlaw05_wider.f k t504 t505).bind fun bt514 => ((worldmintlaw05_wider.f k bt509.1 bt509.2).bind fun bt520 => ((wide_Add.f k bt514.1 bt514.2.1 bt520.1 bt520.2.1).bind fun bt526 => ((wide_Sub.f k bt514.1 bt514.2.1 bt520.1 bt520.2.1).bind fun bt532 => (if bt514.2.2 = true then (if bt520.2.2 = true then (if bt526.2.2 = 0 then (if bt532.2.2 = 0 then ((worldmintref05_Add.f k t504 t505 bt509.1 bt509.2).bind fun bt538 => ((worldmintlaw05_equal.f k bt526.1 bt526.2.1 bt538.1 bt538.2).bind fun t542 => (if t542 = true then ((worldmintref05_Sub.f k t504 t505 bt509.1 bt509.2).bind fun bt543 => ((worldmintlaw05_equal.f k bt532.1 bt532.2.1 bt543.1 bt543.2).bind fun t547 => (if t547 = true then ((worldmintlaw05_equal.f k bt514.1 bt514.2.1 t504 t505).bind fun t548 => (if t548 = true then ((worldmintlaw05_equal.f k bt520.1 bt520.2.1 bt509.1 bt509.2).bind fun t549 => (if t549 = true then ((worldmintlaw05_lives.f k).bind fun t550 => (some t550)) else (some false))) else (some false))) else (some false)))) else (some false)))) else (some false)) else (some false)) else (some false)) else (some false))))))) = some r := H
 have A2 := am_ A20
 clear A20
 replace H := Option.bind_eq_some_iff.mp H
 obtain ⟨⟨t509, t510⟩, A30, H⟩ := H
 replace H : ((worldmintlaw05_wider.f k t504 t505).bind fun bt514 => ((worldmintlaw05_wider.f k t509 t510).bind fun bt520 => ((wide_Add.f k bt514.1 bt514.2.1 bt520.1 bt520.2.1).bind fun bt526 => ((wide_Sub.f k bt514.1 bt514.2.1 bt520.1 bt520.2.1).bind fun bt532 => (if bt514.2.2 = true then (if bt520.2.2 = true then (if bt526.2.2 = 0 then (if bt532.2.2 = 0 then ((worldmintref05_Add.f k t504 t505 t509 t510).bind fun bt538 => ((worldmintlaw05_equal.f k bt526.1 bt526.2.1 bt538.1 bt538.2).bind fun t542 => (if t542 = true then ((worldmintref05_Sub.f k t504 t505 t509 t510).bind fun bt543 => ((worldmintlaw05_equal.f k bt532.1 bt532.2.1 bt543.1 bt543.2).bind fun t547 => (if t547 = true then ((worldmintlaw05_equal.f k bt514.1 bt514.2.1 t504 t505).bind fun t548 => (if t548 = true then ((worldmintlaw05_equal.f k bt520.1 bt520.2.1 t509 t510).bind fun t549 => (if t549 = true then ((worldmintlaw05_lives.f k).bind fun t550 => (some t550)) else (some false))) else (some false))) else (some false)))) else (some false)))) else (some false)) else (some false)) else (some false)) else (some false)))))) = some r := H
 have A3 := am_ A30
 clear A30
 replace H := Option.bind_eq_some_iff.mp H
 obtain ⟨⟨t514, t515, t518⟩, A40, H⟩ := H
 replace H : ((worldmintlaw05_wider.f k t509 t510).bind fun bt520 => ((wide_Add.f k t514 t515 bt520.1 bt520.2.1).bind fun bt526 => ((wide_Sub.f k t514 t515 bt520.1 bt520.2.1).bind fun bt532 => (if t518 = true then (if bt520.2.2 = true then (if bt526.2.2 = 0 then (if bt532.2.2 = 0 then ((worldmintref05_Add.f k t504 t505 t509 t510).bind fun bt538 => ((worldmintlaw05_equal.f k bt526.1 bt526.2.1 bt538.1 bt538.2).bind fun t542 => (if t542 = true then ((worldmintref05_Sub.f k t504 t505 t509 t510).bind fun bt543 => ((worldmintlaw05_equal.f k bt532.1 bt532.2.1 bt543.1 bt543.2).bind fun t547 => (if t547 = true then ((worldmintlaw05_equal.f k t514 t515 t504 t505).bind fun t548 => (if t548 = true then ((worldmintlaw05_equal.f k bt520.1 bt520.2.1 t509 t510).bind fun t549 => (if t549 = true then ((worldmintlaw05_lives.f k).bind fun t550 => (some t550)) else (some false))) else (some false))) else (some false)))) else (some false)))) else (some false)) else (some false)) else (some false)) else (some false))))) = some r := H
 have A4 := am_ A40
 clear A40
 replace H := Option.bind_eq_some_iff.mp H
 obtain ⟨⟨t520, t521, t524⟩, A50, H⟩ := H
 replace H : ((wide_Add.f k t514 t515 t520 t521).bind fun bt526 => ((wide_Sub.f k t514 t515 t520 t521).bind fun bt532 => (if t518 = true then (if t524 = true then (if bt526.2.2 = 0 then (if bt532.2.2 = 0 then ((worldmintref05_Add.f k t504 t505 t509 t510).bind fun bt538 => ((worldmintlaw05_equal.f k bt526.1 bt526.2.1 bt538.1 bt538.2).bind fun t542 => (if t542 = true then ((worldmintref05_Sub.f k t504 t505 t509 t510).bind fun bt543 => ((worldmintlaw05_equal.f k bt532.1 bt532.2.1 bt543.1 bt543.2).bind fun t547 => (if t547 = true then ((worldmintlaw05_equal.f k t514 t515 t504 t505).bind fun t548 => (if t548 = true then ((worldmintlaw05_equal.f k t520 t521 t509 t510).bind fun t549 => (if t549 = true then ((worldmintlaw05_lives.f k).bind fun t550 => (some t550)) else (some false))) else (some false))) else (some false)))) else (some false)))) else (some false)) else (some false)) else (some false)) else (some false)))) = some r := H
 have A5 := am_ A50
 clear A50
 replace H := Option.bind_eq_some_iff.mp H
 obtain ⟨⟨t526, t527, t530⟩, A60, H⟩ := H
 replace H : ((wide_Sub.f k t514 t515 t520 t521).bind fun bt532 => (if t518 = true then (if t524 = true then (if t530 = 0 then (if bt532.2.2 = 0 then ((worldmintref05_Add.f k t504 t505 t509 t510).bind fun bt538 => ((worldmintlaw05_equal.f k t526 t527 bt538.1 bt538.2).bind fun t542 => (if t542 = true then ((worldmintref05_Sub.f k t504 t505 t509 t510).bind fun bt543 => ((worldmintlaw05_equal.f k bt532.1 bt532.2.1 bt543.1 bt543.2).bind fun t547 => (if t547 = true then ((worldmintlaw05_equal.f k t514 t515 t504 t505).bind fun t548 => (if t548 = true then ((worldmintlaw05_equal.f k t520 t521 t509 t510).bind fun t549 => (if t549 = true then ((worldmintlaw05_lives.f k).bind fun t550 => (some t550)) else (some false))) else (some false))) else (some false)))) else (some false)))) else (some false)) else (some false)) else (some false)) else (some false))) = some r := H
 have A6 := am_ A60
 clear A60
 replace H := Option.bind_eq_some_iff.mp H
 obtain ⟨⟨t532, t533, t536⟩, A70, H⟩ := H
 replace H : (if t518 = true then (if t524 = true then (if t530 = 0 then (if t536 = 0 then ((worldmintref05_Add.f k t504 t505 t509 t510).bind fun bt538 => ((worldmintlaw05_equal.f k t526 t527 bt538.1 bt538.2).bind fun t542 => (if t542 = true then ((worldmintref05_Sub.f k t504 t505 t509 t510).bind fun bt543 => ((worldmintlaw05_equal.f k t532 t533 bt543.1 bt543.2).bind fun t547 => (if t547 = true then ((worldmintlaw05_equal.f k t514 t515 t504 t505).bind fun t548 => (if t548 = true then ((worldmintlaw05_equal.f k t520 t521 t509 t510).bind fun t549 => (if t549 = true then ((worldmintlaw05_lives.f k).bind fun t550 => (some t550)) else (some false))) else (some false))) else (some false)))) else (some false)))) else (some false)) else (some false)) else (some false)) else (some false)) = some r := H
 have A7 := am_ A70
 clear A70
 by_cases c8 : t518 = true
 ·subst c8
  have H1 : (if t524 = true then (if t530 = 0 then (if t536 = 0 then ((worldmintref05_Add.f k t504 t505 t509 t510).bind fun bt538 => ((worldmintlaw05_equal.f k t526 t527 bt538.1 bt538.2).bind fun t542 => (if t542 = true then ((worldmintref05_Sub.f k t504 t505 t509 t510).bind fun bt543 => ((worldmintlaw05_equal.f k t532 t533 bt543.1 bt543.2).bind fun t547 => (if t547 = true then ((worldmintlaw05_equal.f k t514 t515 t504 t505).bind fun t548 => (if t548 = true then ((worldmintlaw05_equal.f k t520 t521 t509 t510).bind fun t549 => (if t549 = true then ((worldmintlaw05_lives.f k).bind fun t550 => (some t550)) else (some false))) else (some false))) else (some false)))) else (some false)))) else (some false)) else (some false)) else (some false)) = some r := by rw [if_pos rfl] at H; exact H
  clear H
  have H := H1
  clear H1
  by_cases c9 : t524 = true
  ·subst c9
   have H1 : (if t530 = 0 then (if t536 = 0 then ((worldmintref05_Add.f k t504 t505 t509 t510).bind fun bt538 => ((worldmintlaw05_equal.f k t526 t527 bt538.1 bt538.2).bind fun t542 => (if t542 = true then ((worldmintref05_Sub.f k t504 t505 t509 t510).bind fun bt543 => ((worldmintlaw05_equal.f k t532 t533 bt543.1 bt543.2).bind fun t547 => (if t547 = true then ((worldmintlaw05_equal.f k t514 t515 t504 t505).bind fun t548 => (if t548 = true then ((worldmintlaw05_equal.f k t520 t521 t509 t510).bind fun t549 => (if t549 = true then ((worldmintlaw05_lives.f k).bind fun t550 => (some t550)) else (some false))) else (some false))) else (some false)))) else (some false)))) else (some false)) else (some false)) = some r := by rw [if_pos rfl] at H; exact H
   clear H
   have H := H1
   clear H1
   by_cases c10 : t530 = 0
   ·rw [if_pos c10] at H
    have c10b0 : (t530 == 0) = true := beq_iff_eq.mpr c10
    have c10b1 : (t530 != 0) = false := bne_eq_false_iff_eq.mpr c10
    clear c10
    by_cases c11 : t536 = 0
    ·rw [if_pos c11] at H
     have c11b0 : (t536 == 0) = true := beq_iff_eq.mpr c11
     have c11b1 : (t536 != 0) = false := bne_eq_false_iff_eq.mpr c11
     clear c11
     replace H := Option.bind_eq_some_iff.mp H
     obtain ⟨⟨t538, t539⟩, A120, H⟩ := H
     replace H : ((worldmintlaw05_equal.f k t526 t527 t538 t539).bind fun t542 => (if t542 = true then ((worldmintref05_Sub.f k t504 t505 t509 t510).bind fun bt543 => ((worldmintlaw05_equal.f k t532 t533 bt543.1 bt543.2).bind fun t547 => (if t547 = true then ((worldmintlaw05_equal.f k t514 t515 t504 t505).bind fun t548 => (if t548 = true then ((worldmintlaw05_equal.f k t520 t521 t509 t510).bind fun t549 => (if t549 = true then ((worldmintlaw05_lives.f k).bind fun t550 => (some t550)) else (some false))) else (some false))) else (some false)))) else (some false))) = some r := H
     have A12 := am_ A120
     clear A120
     replace H := Option.bind_eq_some_iff.mp H
     obtain ⟨t542, A130, H⟩ := H
     replace H : (if t542 = true then ((worldmintref05_Sub.f k t504 t505 t509 t510).bind fun bt543 => ((worldmintlaw05_equal.f k t532 t533 bt543.1 bt543.2).bind fun t547 => (if t547 = true then ((worldmintlaw05_equal.f k t514 t515 t504 t505).bind fun t548 => (if t548 = true then ((worldmintlaw05_equal.f k t520 t521 t509 t510).bind fun t549 => (if t549 = true then ((worldmintlaw05_lives.f k).bind fun t550 => (some t550)) else (some false))) else (some false))) else (some false)))) else (some false)) = some r := H
     have A13 := am_ A130
     clear A130
     by_cases c14 : t542 = true
     ·subst c14
      have H1 : ((worldmintref05_Sub.f k t504 t505 t509 t510).bind fun bt543 => ((worldmintlaw05_equal.f k t532 t533 bt543.1 bt543.2).bind fun t547 => (if t547 = true then ((worldmintlaw05_equal.f k t514 t515 t504 t505).bind fun t548 => (if t548 = true then ((worldmintlaw05_equal.f k t520 t521 t509 t510).bind fun t549 => (if t549 = true then ((worldmintlaw05_lives.f k).bind fun t550 => (some t550)) else (some false))) else (some false))) else (some false)))) = some r := by rw [if_pos rfl] at H; exact H
      clear H
      have H := H1
      clear H1
      replace H := Option.bind_eq_some_iff.mp H
      obtain ⟨⟨t543, t544⟩, A150, H⟩ := H
      replace H : ((worldmintlaw05_equal.f k t532 t533 t543 t544).bind fun t547 => (if t547 = true then ((worldmintlaw05_equal.f k t514 t515 t504 t505).bind fun t548 => (if t548 = true then ((worldmintlaw05_equal.f k t520 t521 t509 t510).bind fun t549 => (if t549 = true then ((worldmintlaw05_lives.f k).bind fun t550 => (some t550)) else (some false))) else (some false))) else (some false))) = some r := H
      have A15 := am_ A150
      clear A150
      replace H := Option.bind_eq_some_iff.mp H
      obtain ⟨t547, A160, H⟩ := H
      replace H : (if t547 = true then ((worldmintlaw05_equal.f k t514 t515 t504 t505).bind fun t548 => (if t548 = true then ((worldmintlaw05_equal.f k t520 t521 t509 t510).bind fun t549 => (if t549 = true then ((worldmintlaw05_lives.f k).bind fun t550 => (some t550)) else (some false))) else (some false))) else (some false)) = some r := H
      have A16 := am_ A160
      clear A160
      by_cases c17 : t547 = true
      ·subst c17
       have H1 : ((worldmintlaw05_equal.f k t514 t515 t504 t505).bind fun t548 => (if t548 = true then ((worldmintlaw05_equal.f k t520 t521 t509 t510).bind fun t549 => (if t549 = true then ((worldmintlaw05_lives.f k).bind fun t550 => (some t550)) else (some false))) else (some false))) = some r := by rw [if_pos rfl] at H; exact H
       clear H
       have H := H1
       clear H1
       replace H := Option.bind_eq_some_iff.mp H
       obtain ⟨t548, A180, H⟩ := H
       replace H : (if t548 = true then ((worldmintlaw05_equal.f k t520 t521 t509 t510).bind fun t549 => (if t549 = true then ((worldmintlaw05_lives.f k).bind fun t550 => (some t550)) else (some false))) else (some false)) = some r := H
       have A18 := am_ A180
       clear A180
       by_cases c19 : t548 = true
       ·subst c19
        have H1 : ((worldmintlaw05_equal.f k t520 t521 t509 t510).bind fun t549 => (if t549 = true then ((worldmintlaw05_lives.f k).bind fun t550 => (some t550)) else (some false))) = some r := by rw [if_pos rfl] at H; exact H
        clear H
        have H := H1
        clear H1
        replace H := Option.bind_eq_some_iff.mp H
        obtain ⟨t549, A200, H⟩ := H
        replace H : (if t549 = true then ((worldmintlaw05_lives.f k).bind fun t550 => (some t550)) else (some false)) = some r := H
        have A20 := am_ A200
        clear A200
        by_cases c21 : t549 = true
        ·subst c21
         have H1 : ((worldmintlaw05_lives.f k).bind fun t550 => (some t550)) = some r := by rw [if_pos rfl] at H; exact H
         clear H
         have H := H1
         clear H1
         replace H := Option.bind_eq_some_iff.mp H
         obtain ⟨t550, A220, H⟩ := H
         replace H : (some t550) = some r := H
         have A22 := am_ A220
         clear A220
         obtain rfl := Option.some.inj H
         go_enter Tryz.func7, Tryz.ntmps7
         try go_wp2_with (first | ((with_reducible refine gate_callee (f := 13) rfl ?_); refine goesL_ (some 14) rfl rfl Tryz.func13 (by kernel_rfl) rfl #[.slice A0 l0.length c0, .int .i64 0] rfl zq6 ?_; (with_reducible refine (worldmintref05_Number.calls k _ _ l0 0 t504 t505 _ ?side1 ?side2 A2.out).mono ?_); (case side1 => repeat (first | exact HR0.out | (with_reducible refine Kd.C_alloc ?_ _) | (with_reducible refine Kd.C_drewN ?_ _) | (with_reducible refine Kd.C_drew ?_))); (case side2 => exact HC0.out); rintro e w23 ⟨v506, rfl, ho0, hb⟩; refine ⟨_, rfl, ?_⟩; have HO507 := am_ (Kd.V_lower (Kd.V_mono (ok' := fun k_ => True) ho0 (fun k_ hk_ => trivial)) (below_size zq2)); replace HB := am_ (below_step zq2 hb); (try clear hb); (try clear ho0)) | ((with_reducible refine gate_dst (N := 3) rfl ?_); refine box_event ?hg (N := 3) ?hd (cs := #[.bool false, .slice none 0 0]) (t := 25) ?hr ?_; (case hd => rfl); (case hg => rfl); (case hr => exact zq0); intro gb508 hg w24 hbox hb; have n0_ := am_ (Kd.V_below (Kd.V_elderB (zq1 HO507.out) gb508 (Nat.le_of_eq hg.symm)) hb); have n1_ := am_ (below_step zq2 hb); have n2_ := am_ (hbox); have n3_ := am_ ((by rw [hg]; exact (below_size zq2) : w.heap.size ≤ gb508)); clear HO507 HB; have HO507 := n0_; have HB := n1_; have BK508 := n2_; have GE508 := n3_; clear n0_ n1_ n2_ n3_; clear hb hbox hg; have hcz25_0 : w24.cell? ⟨gb508, 0, none⟩ = some (.bool false) := (blk_cell BK508.out 0).trans rfl; have hcz25_1 : w24.cell? ⟨gb508, 1, none⟩ = some (.slice none 0 0) := (blk_cell BK508.out 1).trans rfl; have hfz25_0 := blk_frozen BK508.out 0; have hfz25_1 := blk_frozen BK508.out 1; obtain ⟨Ao26, co26, eo26⟩ := Kd.V_slice HO507.out; subst eo26) | ((with_reducible refine gate_callee (f := 13) rfl ?_); refine goesL_ (some 16) rfl rfl Tryz.func13 (by kernel_rfl) rfl #[.slice A0 l0.length c0, .int .i64 6] rfl zq6 ?_; (with_reducible refine (worldmintref05_Number.calls k _ _ l0 6 t509 t510 _ ?side1 ?side2 A3.out).mono ?_); (case side1 => exact Kd.C_below HR0.out zq96); (case side2 => exact HC0.out); rintro e w27 ⟨v511, rfl, ho0, hb⟩; refine ⟨_, rfl, ?_⟩; replace HO507 := am_ (Kd.V_below (by (with_reducible repeat (first | apply Kd.V_alloc | apply Kd.V_drewN | apply Kd.V_drew)); exact (Kd.V_mono (Kd.V_far (p := ⟨gb508, 1, none⟩) (Kd.V_far (p := ⟨gb508, 0, none⟩) (Kd.V_mono HO507.out (fun k_ hk => (⟨hk, hk.2⟩ : _ ∧ k_ ≠ gb508))) (fun _ hk => hk.2) (.bool t504)) (fun _ hk => hk.2) (.slice Ao26 t505.length co26)) (fun _ h_ => h_.1))) hb); have HO512 := am_ (Kd.V_lower (Kd.V_mono (ok' := fun k_ => k_ ≠ gb508) ho0 (fun k_ hk_ => (Kd.freshB (g := gb508) (o := .cells #[.bool t504, .slice Ao26 t505.length co26] 25 (0, 0)) (zq97 BK508.out) k_ hk_))) (below_size zq96)); replace BK508 := am_ (blk_below (g := gb508) (o := .cells #[.bool t504, .slice Ao26 t505.length co26] 25 (0, 0)) (zq97 BK508.out) hb); replace HB := am_ (below_step zq96 hb); (try clear hb); (try clear ho0)) | ((with_reducible refine gate_dst (N := 4) rfl ?_); refine box_event ?hg (N := 4) ?hd (cs := #[.bool false, .slice none 0 0]) (t := 25) ?hr ?_; (case hd => rfl); (case hg => rfl); (case hr => exact zq0); intro gb513 hg w28 hbox hb; have n0_ := am_ (Kd.V_below (Kd.V_elderB (zq1 HO507.out) gb513 (Nat.le_of_eq hg.symm)) hb); have n1_ := am_ (Kd.V_below (Kd.V_elderB (zq1 HO512.out) gb513 (Nat.le_of_eq hg.symm)) hb); have n2_ := am_ (blk_below (g := gb508) (o := .cells #[.bool t504, .slice Ao26 t505.length co26] 25 (0, 0)) (zq9 BK508.out) hb); have n3_ := am_ (below_step zq96 hb); have n4_ := am_ (hbox); have n5_ := am_ ((by rw [hg]; exact (below_size zq96) : w.heap.size ≤ gb513)); have n6_ := am_ ((by rw [hg]; exact Nat.ne_of_lt (blk_lt (g := gb508) (zq9 BK508.out)) : gb508 ≠ gb513)); have n7_ := am_ ((by rw [hg]; exact Nat.ne_of_gt (blk_lt (g := gb508) (zq9 BK508.out)) : gb513 ≠ gb508)); clear HO507 HO512 BK508 HB; have HO507 := n0_; have HO512 := n1_; have BK508 := n2_; have HB := n3_; have BK513 := n4_; have GE513 := n5_; have NB508_513 := n6_; have NB513_508 := n7_; clear n0_ n1_ n2_ n3_ n4_ n5_ n6_ n7_; clear hb hbox hg; have hnb29 := NB513_508.out; have hnc29 := NB508_513.out; have hcz30_0 : w28.cell? ⟨gb513, 0, none⟩ = some (.bool false) := (blk_cell BK513.out 0).trans rfl; have hcz30_1 : w28.cell? ⟨gb513, 1, none⟩ = some (.slice none 0 0) := (blk_cell BK513.out 1).trans rfl; have hfz30_0 := blk_frozen BK513.out 0; have hfz30_1 := blk_frozen BK513.out 1; obtain ⟨Ao31, co31, eo31⟩ := Kd.V_slice HO512.out; subst eo31; have hcz32_0 : w28.cell? ⟨gb508, 0, none⟩ = some (.bool t504) := (blk_cell BK508.out 0).trans rfl; have hcz32_1 : w28.cell? ⟨gb508, 1, none⟩ = some (.slice Ao26 t505.length co26) := (blk_cell BK508.out 1).trans rfl; have hfz32_0 := blk_frozen BK508.out 0; have hfz32_1 := blk_frozen BK508.out 1) | ((with_reducible refine gate_callee (f := 25) rfl ?_); refine goesL_ (some 19) rfl rfl Tryz.func25 (by kernel_rfl) rfl #[.agg #[.bool t504, .slice Ao26 t505.length co26]] rfl zq6 ?_; (with_reducible refine (worldmintlaw05_wider.calls k t504 _ _ t505 t514 t515 true _ ?side1 ?side2 A4.out).mono ?_); (case side1 => refine (Kd.V_reads' (e := 3) (base := w.heap.size) (ok := fun k_ => ((True ∧ k_ ≠ gb508) ∧ k_ ≠ gb513)) (n := t505.length) (c := co26) ?_).2.2; exact (zq98 HO507.out)); (case side2 => exact (Kd.V_reads' HO507.out).2.1); rintro e w33 ⟨v516, rfl, ho0, hb⟩; refine ⟨_, rfl, ?_⟩; replace HO507 := am_ (Kd.V_below (zq98 HO507.out) hb); replace HO512 := am_ (Kd.V_below (zq98 HO512.out) hb); have HO517 := am_ (Kd.V_lower (Kd.V_mono (ok' := fun k_ => k_ ≠ gb508 ∧ k_ ≠ gb513) ho0 (fun k_ hk_ => ⟨(Kd.freshB (g := gb508) (o := .cells #[.bool t504, .slice Ao26 t505.length co26] 25 (0, 0)) (zq99 BK508.out) k_ hk_), (Kd.freshB (g := gb513) (o := .cells #[.bool t509, .slice Ao31 t510.length co31] 25 (0, 0)) (zq100 BK513.out) k_ hk_)⟩)) (below_size zq101)); replace BK508 := am_ (blk_below (g := gb508) (o := .cells #[.bool t504, .slice Ao26 t505.length co26] 25 (0, 0)) (zq99 BK508.out) hb); replace BK513 := am_ (blk_below (g := gb513) (o := .cells #[.bool t509, .slice Ao31 t510.length co31] 25 (0, 0)) (zq100 BK513.out) hb); replace HB := am_ (below_step zq101 hb); (try clear hb); (try clear ho0)) | ((with_reducible refine gate_dst (N := 5) rfl ?_); refine box_event ?hg (N := 5) ?hd (cs := #[.bool false, .slice none 0 0]) (t := 33) ?hr ?_; (case hd => rfl); (case hg => rfl); (case hr => exact zq0); intro gb519 hg w34 hbox hb; have n0_ := am_ (Kd.V_below (Kd.V_elderB (zq1 HO507.out) gb519 (Nat.le_of_eq hg.symm)) hb); have n1_ := am_ (Kd.V_below (Kd.V_elderB (zq1 HO512.out) gb519 (Nat.le_of_eq hg.symm)) hb); have n2_ := am_ (Kd.V_below (Kd.V_elderB (zq1 HO517.out) gb519 (Nat.le_of_eq hg.symm)) hb); have n3_ := am_ (blk_below (g := gb508) (o := .cells #[.bool t504, .slice Ao26 t505.length co26] 25 (0, 0)) (zq9 BK508.out) hb); have n4_ := am_ (blk_below (g := gb513) (o := .cells #[.bool t509, .slice Ao31 t510.length co31] 25 (0, 0)) (zq9 BK513.out) hb); have n5_ := am_ (below_step zq101 hb); have n6_ := am_ (hbox); have n7_ := am_ ((by rw [hg]; exact (below_size zq101) : w.heap.size ≤ gb519)); have n8_ := am_ ((by rw [hg]; exact Nat.ne_of_lt (blk_lt (g := gb508) (zq9 BK508.out)) : gb508 ≠ gb519)); have n9_ := am_ ((by rw [hg]; exact Nat.ne_of_gt (blk_lt (g := gb508) (zq9 BK508.out)) : gb519 ≠ gb508)); have n10_ := am_ ((by rw [hg]; exact Nat.ne_of_lt (blk_lt (g := gb513) (zq9 BK513.out)) : gb513 ≠ gb519)); have n11_ := am_ ((by rw [hg]; exact Nat.ne_of_gt (blk_lt (g := gb513) (zq9 BK513.out)) : gb519 ≠ gb513)); clear HO507 HO512 HO517 BK508 BK513 HB; have HO507 := n0_; have HO512 := n1_; have HO517 := n2_; have BK508 := n3_; have BK513 := n4_; have HB := n5_; have BK519 := n6_; have GE519 := n7_; have NB508_519 := n8_; have NB519_508 := n9_; have NB513_519 := n10_; have NB519_513 := n11_; clear n0_ n1_ n2_ n3_ n4_ n5_ n6_ n7_ n8_ n9_ n10_ n11_; clear hb hbox hg; have hnb35 := NB519_508.out; have hnc35 := NB508_519.out; have hnb36 := NB519_513.out; have hnc36 := NB513_519.out; have hcz37_0 : w34.cell? ⟨gb519, 0, none⟩ = some (.bool false) := (blk_cell BK519.out 0).trans rfl; have hcz37_1 : w34.cell? ⟨gb519, 1, none⟩ = some (.slice none 0 0) := (blk_cell BK519.out 1).trans rfl; have hfz37_0 := blk_frozen BK519.out 0; have hfz37_1 := blk_frozen BK519.out 1; obtain ⟨Ao38, co38, eo38⟩ := Kd.V_slice HO517.out; subst eo38; have hcz39_0 : w34.cell? ⟨gb513, 0, none⟩ = some (.bool t509) := (blk_cell BK513.out 0).trans rfl; have hcz39_1 : w34.cell? ⟨gb513, 1, none⟩ = some (.slice Ao31 t510.length co31) := (blk_cell BK513.out 1).trans rfl; have hfz39_0 := blk_frozen BK513.out 0; have hfz39_1 := blk_frozen BK513.out 1) | ((with_reducible refine gate_callee (f := 25) rfl ?_); refine goesL_ (some 24) rfl rfl Tryz.func25 (by kernel_rfl) rfl #[.agg #[.bool t509, .slice Ao31 t510.length co31]] rfl zq6 ?_; (with_reducible refine (worldmintlaw05_wider.calls k t509 _ _ t510 t520 t521 true _ ?side1 ?side2 A5.out).mono ?_); (case side1 => refine (Kd.V_reads' (e := 3) (base := w.heap.size) (ok := fun k_ => ((k_ ≠ gb508 ∧ k_ ≠ gb513) ∧ k_ ≠ gb519)) (n := t510.length) (c := co31) ?_).2.2; exact (zq102 HO512.out)); (case side2 => exact (Kd.V_reads' HO512.out).2.1); rintro e w40 ⟨v522, rfl, ho0, hb⟩; refine ⟨_, rfl, ?_⟩; replace HO507 := am_ (Kd.V_below (zq102 HO507.out) hb); replace HO512 := am_ (Kd.V_below (zq102 HO512.out) hb); replace HO517 := am_ (Kd.V_below (zq102 HO517.out) hb); have HO523 := am_ (Kd.V_lower (Kd.V_mono (ok' := fun k_ => k_ ≠ gb508 ∧ k_ ≠ gb513 ∧ k_ ≠ gb519) ho0 (fun k_ hk_ => ⟨(Kd.freshB (g := gb508) (o := .cells #[.bool t504, .slice Ao26 t505.length co26] 25 (0, 0)) (zq103 BK508.out) k_ hk_), (Kd.freshB (g := gb513) (o := .cells #[.bool t509, .slice Ao31 t510.length co31] 25 (0, 0)) (zq104 BK513.out) k_ hk_), (Kd.freshB (g := gb519) (o := .cells #[.bool t514, .slice Ao38 t515.length co38] 33 (0, 0)) (zq105 BK519.out) k_ hk_)⟩)) (below_size zq106)); replace BK508 := am_ (blk_below (g := gb508) (o := .cells #[.bool t504, .slice Ao26 t505.length co26] 25 (0, 0)) (zq103 BK508.out) hb); replace BK513 := am_ (blk_below (g := gb513) (o := .cells #[.bool t509, .slice Ao31 t510.length co31] 25 (0, 0)) (zq104 BK513.out) hb); replace BK519 := am_ (blk_below (g := gb519) (o := .cells #[.bool t514, .slice Ao38 t515.length co38] 33 (0, 0)) (zq105 BK519.out) hb); replace HB := am_ (below_step zq106 hb); (try clear hb); (try clear ho0)) | ((with_reducible refine gate_dst (N := 7) rfl ?_); refine box_event ?hg (N := 7) ?hd (cs := #[.bool false, .slice none 0 0]) (t := 33) ?hr ?_; (case hd => rfl); (case hg => rfl); (case hr => exact zq0); intro gb525 hg w41 hbox hb; have n0_ := am_ (Kd.V_below (Kd.V_elderB (zq1 HO507.out) gb525 (Nat.le_of_eq hg.symm)) hb); have n1_ := am_ (Kd.V_below (Kd.V_elderB (zq1 HO512.out) gb525 (Nat.le_of_eq hg.symm)) hb); have n2_ := am_ (Kd.V_below (Kd.V_elderB (zq1 HO517.out) gb525 (Nat.le_of_eq hg.symm)) hb); have n3_ := am_ (Kd.V_below (Kd.V_elderB (zq1 HO523.out) gb525 (Nat.le_of_eq hg.symm)) hb); have n4_ := am_ (blk_below (g := gb508) (o := .cells #[.bool t504, .slice Ao26 t505.length co26] 25 (0, 0)) (zq9 BK508.out) hb); have n5_ := am_ (blk_below (g := gb513) (o := .cells #[.bool t509, .slice Ao31 t510.length co31] 25 (0, 0)) (zq9 BK513.out) hb); have n6_ := am_ (blk_below (g := gb519) (o := .cells #[.bool t514, .slice Ao38 t515.length co38] 33 (0, 0)) (zq9 BK519.out) hb); have n7_ := am_ (below_step zq106 hb); have n8_ := am_ (hbox); have n9_ := am_ ((by rw [hg]; exact (below_size zq106) : w.heap.size ≤ gb525)); have n10_ := am_ ((by rw [hg]; exact Nat.ne_of_lt (blk_lt (g := gb508) (zq9 BK508.out)) : gb508 ≠ gb525)); have n11_ := am_ ((by rw [hg]; exact Nat.ne_of_gt (blk_lt (g := gb508) (zq9 BK508.out)) : gb525 ≠ gb508)); have n12_ := am_ ((by rw [hg]; exact Nat.ne_of_lt (blk_lt (g := gb513) (zq9 BK513.out)) : gb513 ≠ gb525)); have n13_ := am_ ((by rw [hg]; exact Nat.ne_of_gt (blk_lt (g := gb513) (zq9 BK513.out)) : gb525 ≠ gb513)); have n14_ := am_ ((by rw [hg]; exact Nat.ne_of_lt (blk_lt (g := gb519) (zq9 BK519.out)) : gb519 ≠ gb525)); have n15_ := am_ ((by rw [hg]; exact Nat.ne_of_gt (blk_lt (g := gb519) (zq9 BK519.out)) : gb525 ≠ gb519)); clear HO507 HO512 HO517 HO523 BK508 BK513 BK519 HB; have HO507 := n0_; have HO512 := n1_; have HO517 := n2_; have HO523 := n3_; have BK508 := n4_; have BK513 := n5_; have BK519 := n6_; have HB := n7_; have BK525 := n8_; have GE525 := n9_; have NB508_525 := n10_; have NB525_508 := n11_; have NB513_525 := n12_; have NB525_513 := n13_; have NB519_525 := n14_; have NB525_519 := n15_; clear n0_ n1_ n2_ n3_ n4_ n5_ n6_ n7_ n8_ n9_ n10_ n11_ n12_ n13_ n14_ n15_; clear hb hbox hg; have hnb42 := NB525_508.out; have hnc42 := NB508_525.out; have hnb43 := NB525_513.out; have hnc43 := NB513_525.out; have hnb44 := NB525_519.out; have hnc44 := NB519_525.out; have hcz45_0 : w41.cell? ⟨gb525, 0, none⟩ = some (.bool false) := (blk_cell BK525.out 0).trans rfl; have hcz45_1 : w41.cell? ⟨gb525, 1, none⟩ = some (.slice none 0 0) := (blk_cell BK525.out 1).trans rfl; have hfz45_0 := blk_frozen BK525.out 0; have hfz45_1 := blk_frozen BK525.out 1; obtain ⟨Ao46, co46, eo46⟩ := Kd.V_slice HO523.out; subst eo46; have hcz47_0 : w41.cell? ⟨gb519, 0, none⟩ = some (.bool t514) := (blk_cell BK519.out 0).trans rfl; have hcz47_1 : w41.cell? ⟨gb519, 1, none⟩ = some (.slice Ao38 t515.length co38) := (blk_cell BK519.out 1).trans rfl; have hfz47_0 := blk_frozen BK519.out 0; have hfz47_1 := blk_frozen BK519.out 1) | ((with_reducible refine gate_callee (f := 32) rfl ?_); refine goesL_ (some 30) rfl rfl Tryz.func32 (by kernel_rfl) rfl #[.agg #[.bool t514, .slice Ao38 t515.length co38], .agg #[.bool t520, .slice Ao46 t521.length co46]] rfl zq6 ?_; (with_reducible refine (wide_Add.calls k t514 _ _ t515 t520 _ _ t521 t526 t527 t530 _ ?side1 ?side2 ?side3 ?side4 A6.out).mono ?_); (case side1 => refine (Kd.V_reads' (e := 81) (base := w.heap.size) (ok := fun k_ => (((k_ ≠ gb508 ∧ k_ ≠ gb513) ∧ k_ ≠ gb519) ∧ k_ ≠ gb525)) (n := t515.length) (c := co38) ?_).2.2; exact (zq107 HO517.out)); (case side2 => exact (Kd.V_reads' HO517.out).2.1); (case side3 => refine (Kd.V_reads' (e := 81) (base := w.heap.size) (ok := fun k_ => ((k_ ≠ gb508 ∧ (k_ ≠ gb513 ∧ k_ ≠ gb519)) ∧ k_ ≠ gb525)) (n := t521.length) (c := co46) ?_).2.2; exact (zq107 HO523.out)); (case side4 => exact (Kd.V_reads' HO523.out).2.1); rintro e w48 ⟨v528, rfl, ho0, hb⟩; refine ⟨_, rfl, ?_⟩; replace HO507 := am_ (Kd.V_below (zq107 HO507.out) hb); replace HO512 := am_ (Kd.V_below (zq107 HO512.out) hb); replace HO517 := am_ (Kd.V_below (zq107 HO517.out) hb); replace HO523 := am_ (Kd.V_below (zq107 HO523.out) hb); have HO529 := am_ (Kd.V_lower (Kd.V_mono (ok' := fun k_ => k_ ≠ gb508 ∧ k_ ≠ gb513 ∧ k_ ≠ gb519 ∧ k_ ≠ gb525) ho0 (fun k_ hk_ => ⟨(Kd.freshB (g := gb508) (o := .cells #[.bool t504, .slice Ao26 t505.length co26] 25 (0, 0)) (zq108 BK508.out) k_ hk_), (Kd.freshB (g := gb513) (o := .cells #[.bool t509, .slice Ao31 t510.length co31] 25 (0, 0)) (zq109 BK513.out) k_ hk_), (Kd.freshB (g := gb519) (o := .cells #[.bool t514, .slice Ao38 t515.length co38] 33 (0, 0)) (zq110 BK519.out) k_ hk_), (Kd.freshB (g := gb525) (o := .cells #[.bool t520, .slice Ao46 t521.length co46] 33 (0, 0)) (zq111 BK525.out) k_ hk_)⟩)) (below_size zq112)); replace BK508 := am_ (blk_below (g := gb508) (o := .cells #[.bool t504, .slice Ao26 t505.length co26] 25 (0, 0)) (zq108 BK508.out) hb); replace BK513 := am_ (blk_below (g := gb513) (o := .cells #[.bool t509, .slice Ao31 t510.length co31] 25 (0, 0)) (zq109 BK513.out) hb); replace BK519 := am_ (blk_below (g := gb519) (o := .cells #[.bool t514, .slice Ao38 t515.length co38] 33 (0, 0)) (zq110 BK519.out) hb); replace BK525 := am_ (blk_below (g := gb525) (o := .cells #[.bool t520, .slice Ao46 t521.length co46] 33 (0, 0)) (zq111 BK525.out) hb); replace HB := am_ (below_step zq112 hb)) | ((with_reducible refine gate_dst (N := 9) rfl ?_); refine box_event ?hg (N := 9) ?hd (cs := #[.bool false, .slice none 0 0]) (t := 33) ?hr ?_; (case hd => rfl); (case hg => rfl); (case hr => exact zq0); intro gb531 hg w49 hbox hb; have n0_ := am_ (Kd.V_below (Kd.V_elderB (zq1 HO507.out) gb531 (Nat.le_of_eq hg.symm)) hb); have n1_ := am_ (Kd.V_below (Kd.V_elderB (zq1 HO512.out) gb531 (Nat.le_of_eq hg.symm)) hb); have n2_ := am_ (Kd.V_below (Kd.V_elderB (zq1 HO517.out) gb531 (Nat.le_of_eq hg.symm)) hb); have n3_ := am_ (Kd.V_below (Kd.V_elderB (zq1 HO523.out) gb531 (Nat.le_of_eq hg.symm)) hb); have n4_ := am_ (Kd.V_below (Kd.V_elderB (zq1 HO529.out) gb531 (Nat.le_of_eq hg.symm)) hb); have n5_ := am_ (blk_below (g := gb508) (o := .cells #[.bool t504, .slice Ao26 t505.length co26] 25 (0, 0)) (zq9 BK508.out) hb); have n6_ := am_ (blk_below (g := gb513) (o := .cells #[.bool t509, .slice Ao31 t510.length co31] 25 (0, 0)) (zq9 BK513.out) hb); have n7_ := am_ (blk_below (g := gb519) (o := .cells #[.bool t514, .slice Ao38 t515.length co38] 33 (0, 0)) (zq9 BK519.out) hb); have n8_ := am_ (blk_below (g := gb525) (o := .cells #[.bool t520, .slice Ao46 t521.length co46] 33 (0, 0)) (zq9 BK525.out) hb); have n9_ := am_ (below_step zq112 hb); have n10_ := am_ (hbox); have n11_ := am_ ((by rw [hg]; exact (below_size zq112) : w.heap.size ≤ gb531)); have n12_ := am_ ((by rw [hg]; exact Nat.ne_of_lt (blk_lt (g := gb508) (zq9 BK508.out)) : gb508 ≠ gb531)); have n13_ := am_ ((by rw [hg]; exact Nat.ne_of_gt (blk_lt (g := gb508) (zq9 BK508.out)) : gb531 ≠ gb508)); have n14_ := am_ ((by rw [hg]; exact Nat.ne_of_lt (blk_lt (g := gb513) (zq9 BK513.out)) : gb513 ≠ gb531)); have n15_ := am_ ((by rw [hg]; exact Nat.ne_of_gt (blk_lt (g := gb513) (zq9 BK513.out)) : gb531 ≠ gb513)); have n16_ := am_ ((by rw [hg]; exact Nat.ne_of_lt (blk_lt (g := gb519) (zq9 BK519.out)) : gb519 ≠ gb531)); have n17_ := am_ ((by rw [hg]; exact Nat.ne_of_gt (blk_lt (g := gb519) (zq9 BK519.out)) : gb531 ≠ gb519)); have n18_ := am_ ((by rw [hg]; exact Nat.ne_of_lt (blk_lt (g := gb525) (zq9 BK525.out)) : gb525 ≠ gb531)); have n19_ := am_ ((by rw [hg]; exact Nat.ne_of_gt (blk_lt (g := gb525) (zq9 BK525.out)) : gb531 ≠ gb525)); clear HO507 HO512 HO517 HO523 HO529 BK508 BK513 BK519 BK525 HB; have HO507 := n0_; have HO512 := n1_; have HO517 := n2_; have HO523 := n3_; have HO529 := n4_; have BK508 := n5_; have BK513 := n6_; have BK519 := n7_; have BK525 := n8_; have HB := n9_; have BK531 := n10_; have GE531 := n11_; have NB508_531 := n12_; have NB531_508 := n13_; have NB513_531 := n14_; have NB531_513 := n15_; have NB519_531 := n16_; have NB531_519 := n17_; have NB525_531 := n18_; have NB531_525 := n19_; clear n0_ n1_ n2_ n3_ n4_ n5_ n6_ n7_ n8_ n9_ n10_ n11_ n12_ n13_ n14_ n15_ n16_ n17_ n18_ n19_; clear hb hbox hg; have hnb50 := NB531_508.out; have hnc50 := NB508_531.out; have hnb51 := NB531_513.out; have hnc51 := NB513_531.out; have hnb52 := NB531_519.out; have hnc52 := NB519_531.out; have hnb53 := NB531_525.out; have hnc53 := NB525_531.out; have hcz54_0 : w49.cell? ⟨gb531, 0, none⟩ = some (.bool false) := (blk_cell BK531.out 0).trans rfl; have hcz54_1 : w49.cell? ⟨gb531, 1, none⟩ = some (.slice none 0 0) := (blk_cell BK531.out 1).trans rfl; have hfz54_0 := blk_frozen BK531.out 0; have hfz54_1 := blk_frozen BK531.out 1; obtain ⟨Ao55, co55, eo55⟩ := Kd.V_slice HO529.out; subst eo55) | ((with_reducible refine gate_store (t := 33) (p := 9) rfl ?_); refine store_event (t := 33) (p := 9) (v := ?vo_w56) (w1 := ((w49.setCell ⟨gb531, 0, none⟩ (.bool t526)).setCell ⟨gb531, 1, none⟩ (.slice Ao55 t527.length co55))) ?hg ?ho ?hn ?hr ?_; (case ho => rfl); (case hg => rfl); (case hn => rfl); (case hr => exact zq0); intro w56 hw; have n0_ : Aside0 (Kd.V (Kd.int .i64) 3 w56 w.heap.size (fun k_ => k_ ≠ gb508 ∧ k_ ≠ gb513 ∧ k_ ≠ gb519 ∧ k_ ≠ gb525 ∧ k_ ≠ gb531) (.slice Ao26 t505.length co26) t505) := ⟨(by rw [hw]; exact (by (with_reducible repeat (first | apply Kd.V_alloc | apply Kd.V_drewN | apply Kd.V_drew)); exact Kd.V_mono (Kd.V_far (p := ⟨gb531, 1, none⟩) (Kd.V_far (p := ⟨gb531, 0, none⟩) (Kd.V_mono HO507.out (fun k_ hk => (⟨hk, hk.2⟩ : _ ∧ k_ ≠ gb531))) (fun _ hk => hk.2) (.bool t526)) (fun _ hk => hk.2) (.slice Ao55 t527.length co55)) (fun _ hk => ⟨hk.1.1.1.1.1.2, ⟨hk.1.1.1.1.2, ⟨hk.1.1.1.2, ⟨hk.1.1.2, hk.1.2⟩⟩⟩⟩)))⟩; have n1_ : Aside0 (Kd.V (Kd.int .i64) 3 w56 w.heap.size (fun k_ => k_ ≠ gb508 ∧ k_ ≠ gb513 ∧ k_ ≠ gb519 ∧ k_ ≠ gb525 ∧ k_ ≠ gb531) (.slice Ao31 t510.length co31) t510) := ⟨(zq113 HO512.out)⟩; have n2_ : Aside0 (Kd.V (Kd.int .u32) 81 w56 w.heap.size (fun k_ => k_ ≠ gb508 ∧ k_ ≠ gb513 ∧ k_ ≠ gb519 ∧ k_ ≠ gb525 ∧ k_ ≠ gb531) (.slice Ao38 t515.length co38) t515) := ⟨(zq113 HO517.out)⟩; have n3_ : Aside0 (Kd.V (Kd.int .u32) 81 w56 w.heap.size (fun k_ => k_ ≠ gb508 ∧ k_ ≠ gb513 ∧ k_ ≠ gb519 ∧ k_ ≠ gb525 ∧ k_ ≠ gb531) (.slice Ao46 t521.length co46) t521) := ⟨(by rw [hw]; exact (by (with_reducible repeat (first | apply Kd.V_alloc | apply Kd.V_drewN | apply Kd.V_drew)); exact Kd.V_mono (Kd.V_far (p := ⟨gb531, 1, none⟩) (Kd.V_far (p := ⟨gb531, 0, none⟩) (Kd.V_mono HO523.out (fun k_ hk => (⟨hk, hk.2⟩ : _ ∧ k_ ≠ gb531))) (fun _ hk => hk.2) (.bool t526)) (fun _ hk => hk.2) (.slice Ao55 t527.length co55)) (fun _ hk => ⟨hk.1.1.1.1, ⟨hk.1.1.1.2.1, ⟨hk.1.1.1.2.2, ⟨hk.1.1.2, hk.1.2⟩⟩⟩⟩)))⟩; have n4_ : Aside0 (Kd.V (Kd.int .u32) 81 w56 w.heap.size (fun k_ => k_ ≠ gb508 ∧ k_ ≠ gb513 ∧ k_ ≠ gb519 ∧ k_ ≠ gb525 ∧ k_ ≠ gb531) (.slice Ao55 t527.length co55) t527) := ⟨(by rw [hw]; exact (by (with_reducible repeat (first | apply Kd.V_alloc | apply Kd.V_drewN | apply Kd.V_drew)); exact Kd.V_mono (Kd.V_far (p := ⟨gb531, 1, none⟩) (Kd.V_far (p := ⟨gb531, 0, none⟩) (Kd.V_mono HO529.out (fun k_ hk => (⟨hk, hk.2⟩ : _ ∧ k_ ≠ gb531))) (fun _ hk => hk.2) (.bool t526)) (fun _ hk => hk.2) (.slice Ao55 t527.length co55)) (fun _ hk => ⟨hk.1.1.1, ⟨hk.1.1.2.1, ⟨hk.1.1.2.2.1, ⟨hk.1.1.2.2.2, hk.1.2⟩⟩⟩⟩)))⟩; have n5_ : Aside0 (w56.heap[gb508]? = some (.cells #[.bool t504, .slice Ao26 t505.length co26] 25 (0, 0))) := ⟨(by rw [hw]; exact (by (with_reducible repeat (first | refine blk_drewN ?_ _ | refine blk_drew ?_ | refine blk_alloc ?_ _)); refine blk_far ?_ NB508_531.out _; (with_reducible repeat (first | refine blk_drewN ?_ _ | refine blk_drew ?_ | refine blk_alloc ?_ _)); refine blk_far ?_ NB508_531.out _; (with_reducible repeat (first | refine blk_drewN ?_ _ | refine blk_drew ?_ | refine blk_alloc ?_ _)); exact BK508.out))⟩; have n6_ : Aside0 (w56.heap[gb513]? = some (.cells #[.bool t509, .slice Ao31 t510.length co31] 25 (0, 0))) := ⟨(by rw [hw]; exact (by (with_reducible repeat (first | refine blk_drewN ?_ _ | refine blk_drew ?_ | refine blk_alloc ?_ _)); refine blk_far ?_ NB513_531.out _; (with_reducible repeat (first | refine blk_drewN ?_ _ | refine blk_drew ?_ | refine blk_alloc ?_ _)); refine blk_far ?_ NB513_531.out _; (with_reducible repeat (first | refine blk_drewN ?_ _ | refine blk_drew ?_ | refine blk_alloc ?_ _)); exact BK513.out))⟩; have n7_ : Aside0 (w56.heap[gb519]? = some (.cells #[.bool t514, .slice Ao38 t515.length co38] 33 (0, 0))) := ⟨(by rw [hw]; exact (by (with_reducible repeat (first | refine blk_drewN ?_ _ | refine blk_drew ?_ | refine blk_alloc ?_ _)); refine blk_far ?_ NB519_531.out _; (with_reducible repeat (first | refine blk_drewN ?_ _ | refine blk_drew ?_ | refine blk_alloc ?_ _)); refine blk_far ?_ NB519_531.out _; (with_reducible repeat (first | refine blk_drewN ?_ _ | refine blk_drew ?_ | refine blk_alloc ?_ _)); exact BK519.out))⟩; have n8_ : Aside0 (w56.heap[gb525]? = some (.cells #[.bool t520, .slice Ao46 t521.length co46] 33 (0, 0))) := ⟨(by rw [hw]; exact (by (with_reducible repeat (first | refine blk_drewN ?_ _ | refine blk_drew ?_ | refine blk_alloc ?_ _)); refine blk_far ?_ NB525_531.out _; (with_reducible repeat (first | refine blk_drewN ?_ _ | refine blk_drew ?_ | refine blk_alloc ?_ _)); refine blk_far ?_ NB525_531.out _; (with_reducible repeat (first | refine blk_drewN ?_ _ | refine blk_drew ?_ | refine blk_alloc ?_ _)); exact BK525.out))⟩; have n9_ : Aside0 (w56.heap[gb531]? = some (.cells #[.bool t526, .slice Ao55 t527.length co55] 33 (0, 0))) := ⟨(by rw [hw]; exact (by (with_reducible repeat (first | refine blk_drewN ?_ _ | refine blk_drew ?_ | refine blk_alloc ?_ _)); refine blk_put (cs := #[.bool t526, .slice none 0 0]) ?_ 1 _ rfl; (with_reducible repeat (first | refine blk_drewN ?_ _ | refine blk_drew ?_ | refine blk_alloc ?_ _)); refine blk_put (cs := #[.bool false, .slice none 0 0]) ?_ 0 _ rfl; (with_reducible repeat (first | refine blk_drewN ?_ _ | refine blk_drew ?_ | refine blk_alloc ?_ _)); exact BK531.out))⟩; have n10_ : Aside0 (Below w.heap.size w w56) := ⟨(by rw [hw]; exact zq114)⟩; clear hw; clear HO507; clear HO512; clear HO517; clear HO523; clear HO529; clear BK508; clear BK513; clear BK519; clear BK525; clear BK531; clear HB; have HO507 := n0_; have HO512 := n1_; have HO517 := n2_; have HO523 := n3_; have HO529 := n4_; have BK508 := n5_; have BK513 := n6_; have BK519 := n7_; have BK525 := n8_; have BK531 := n9_; have HB := n10_; clear n0_ n1_ n2_ n3_ n4_ n5_ n6_ n7_ n8_ n9_ n10_; have hcz57_0 : w56.cell? ⟨gb519, 0, none⟩ = some (.bool t514) := (blk_cell BK519.out 0).trans rfl; have hcz57_1 : w56.cell? ⟨gb519, 1, none⟩ = some (.slice Ao38 t515.length co38) := (blk_cell BK519.out 1).trans rfl; have hfz57_0 := blk_frozen BK519.out 0; have hfz57_1 := blk_frozen BK519.out 1; have hcz58_0 : w56.cell? ⟨gb525, 0, none⟩ = some (.bool t520) := (blk_cell BK525.out 0).trans rfl; have hcz58_1 : w56.cell? ⟨gb525, 1, none⟩ = some (.slice Ao46 t521.length co46) := (blk_cell BK525.out 1).trans rfl; have hfz58_0 := blk_frozen BK525.out 0; have hfz58_1 := blk_frozen BK525.out 1) | ((with_reducible refine gate_callee (f := 33) rfl ?_); refine goesL_ (some 36) rfl rfl Tryz.func33 (by kernel_rfl) rfl #[.agg #[.bool t514, .slice Ao38 t515.length co38], .agg #[.bool t520, .slice Ao46 t521.length co46]] rfl zq6 ?_; (with_reducible refine (wide_Sub.calls k t514 _ _ t515 t520 (fun k_ => (k_ ≠ gb508 ∧ (k_ ≠ gb513 ∧ (k_ ≠ gb519 ∧ (k_ ≠ gb525 ∧ k_ ≠ gb531))))) _ _ t521 t532 t533 t536 _ ?side1 ?side2 ?side3 A7.out).mono ?_); (case side1 => exact (zq31 HO517.out)); (case side2 => exact (Kd.V_reads' HO517.out).2.1); (case side3 => exact HO523.out); rintro e w59 ⟨v534, rfl, ho0, hb⟩; refine ⟨_, rfl, ?_⟩; replace HO507 := am_ (Kd.V_below (zq1 HO507.out) hb); replace HO512 := am_ (Kd.V_below (zq1 HO512.out) hb); replace HO517 := am_ (Kd.V_below (zq1 HO517.out) hb); replace HO523 := am_ (Kd.V_below (zq1 HO523.out) hb); replace HO529 := am_ (Kd.V_below (zq1 HO529.out) hb); have HO535 := am_ (Kd.V_lower (Kd.V_mono (ok' := fun k_ => k_ ≠ gb508 ∧ k_ ≠ gb513 ∧ k_ ≠ gb519 ∧ k_ ≠ gb525 ∧ k_ ≠ gb531) ho0 (fun k_ hk_ => ⟨Or.elim hk_ (fun hs_ => hs_.1) (fun hn_ => (Kd.freshB (g := gb508) (o := .cells #[.bool t504, .slice Ao26 t505.length co26] 25 (0, 0)) (zq9 BK508.out) k_ hn_)), Or.elim hk_ (fun hs_ => hs_.2.1) (fun hn_ => (Kd.freshB (g := gb513) (o := .cells #[.bool t509, .slice Ao31 t510.length co31] 25 (0, 0)) (zq9 BK513.out) k_ hn_)), Or.elim hk_ (fun hs_ => hs_.2.2.1) (fun hn_ => (Kd.freshB (g := gb519) (o := .cells #[.bool t514, .slice Ao38 t515.length co38] 33 (0, 0)) (zq9 BK519.out) k_ hn_)), Or.elim hk_ (fun hs_ => hs_.2.2.2.1) (fun hn_ => (Kd.freshB (g := gb525) (o := .cells #[.bool t520, .slice Ao46 t521.length co46] 33 (0, 0)) (zq9 BK525.out) k_ hn_)), Or.elim hk_ (fun hs_ => hs_.2.2.2.2) (fun hn_ => (Kd.freshB (g := gb531) (o := .cells #[.bool t526, .slice Ao55 t527.length co55] 33 (0, 0)) (zq9 BK531.out) k_ hn_))⟩)) (below_size zq114)); replace BK508 := am_ (blk_below (g := gb508) (o := .cells #[.bool t504, .slice Ao26 t505.length co26] 25 (0, 0)) (zq9 BK508.out) hb); replace BK513 := am_ (blk_below (g := gb513) (o := .cells #[.bool t509, .slice Ao31 t510.length co31] 25 (0, 0)) (zq9 BK513.out) hb); replace BK519 := am_ (blk_below (g := gb519) (o := .cells #[.bool t514, .slice Ao38 t515.length co38] 33 (0, 0)) (zq9 BK519.out) hb); replace BK525 := am_ (blk_below (g := gb525) (o := .cells #[.bool t520, .slice Ao46 t521.length co46] 33 (0, 0)) (zq9 BK525.out) hb); replace BK531 := am_ (blk_below (g := gb531) (o := .cells #[.bool t526, .slice Ao55 t527.length co55] 33 (0, 0)) (zq9 BK531.out) hb); replace HB := am_ (below_step zq114 hb); (try clear hb); (try clear ho0)) | ((with_reducible refine gate_dst (N := 11) rfl ?_); refine box_event ?hg (N := 11) ?hd (cs := #[.bool false, .slice none 0 0]) (t := 33) ?hr ?_; (case hd => rfl); (case hg => rfl); (case hr => exact zq0); intro gb537 hg w60 hbox hb; have n0_ := am_ (Kd.V_below (Kd.V_elderB (zq1 HO507.out) gb537 (Nat.le_of_eq hg.symm)) hb); have n1_ := am_ (Kd.V_below (Kd.V_elderB (zq1 HO512.out) gb537 (Nat.le_of_eq hg.symm)) hb); have n2_ := am_ (Kd.V_below (Kd.V_elderB (zq1 HO517.out) gb537 (Nat.le_of_eq hg.symm)) hb); have n3_ := am_ (Kd.V_below (Kd.V_elderB (zq1 HO523.out) gb537 (Nat.le_of_eq hg.symm)) hb); have n4_ := am_ (Kd.V_below (Kd.V_elderB (zq1 HO529.out) gb537 (Nat.le_of_eq hg.symm)) hb); have n5_ := am_ (Kd.V_below (Kd.V_elderB (zq1 HO535.out) gb537 (Nat.le_of_eq hg.symm)) hb); have n6_ := am_ (blk_below (g := gb508) (o := .cells #[.bool t504, .slice Ao26 t505.length co26] 25 (0, 0)) (zq9 BK508.out) hb); have n7_ := am_ (blk_below (g := gb513) (o := .cells #[.bool t509, .slice Ao31 t510.length co31] 25 (0, 0)) (zq9 BK513.out) hb); have n8_ := am_ (blk_below (g := gb519) (o := .cells #[.bool t514, .slice Ao38 t515.length co38] 33 (0, 0)) (zq9 BK519.out) hb); have n9_ := am_ (blk_below (g := gb525) (o := .cells #[.bool t520, .slice Ao46 t521.length co46] 33 (0, 0)) (zq9 BK525.out) hb); have n10_ := am_ (blk_below (g := gb531) (o := .cells #[.bool t526, .slice Ao55 t527.length co55] 33 (0, 0)) (zq9 BK531.out) hb); have n11_ := am_ (below_step zq114 hb); have n12_ := am_ (hbox); have n13_ := am_ ((by rw [hg]; exact (below_size zq114) : w.heap.size ≤ gb537)); have n14_ := am_ ((by rw [hg]; exact Nat.ne_of_lt (blk_lt (g := gb508) (zq9 BK508.out)) : gb508 ≠ gb537)); have n15_ := am_ ((by rw [hg]; exact Nat.ne_of_gt (blk_lt (g := gb508) (zq9 BK508.out)) : gb537 ≠ gb508)); have n16_ := am_ ((by rw [hg]; exact Nat.ne_of_lt (blk_lt (g := gb513) (zq9 BK513.out)) : gb513 ≠ gb537)); have n17_ := am_ ((by rw [hg]; exact Nat.ne_of_gt (blk_lt (g := gb513) (zq9 BK513.out)) : gb537 ≠ gb513)); have n18_ := am_ ((by rw [hg]; exact Nat.ne_of_lt (blk_lt (g := gb519) (zq9 BK519.out)) : gb519 ≠ gb537)); have n19_ := am_ ((by rw [hg]; exact Nat.ne_of_gt (blk_lt (g := gb519) (zq9 BK519.out)) : gb537 ≠ gb519)); have n20_ := am_ ((by rw [hg]; exact Nat.ne_of_lt (blk_lt (g := gb525) (zq9 BK525.out)) : gb525 ≠ gb537)); have n21_ := am_ ((by rw [hg]; exact Nat.ne_of_gt (blk_lt (g := gb525) (zq9 BK525.out)) : gb537 ≠ gb525)); have n22_ := am_ ((by rw [hg]; exact Nat.ne_of_lt (blk_lt (g := gb531) (zq9 BK531.out)) : gb531 ≠ gb537)); have n23_ := am_ ((by rw [hg]; exact Nat.ne_of_gt (blk_lt (g := gb531) (zq9 BK531.out)) : gb537 ≠ gb531)); clear HO507 HO512 HO517 HO523 HO529 HO535 BK508 BK513 BK519 BK525 BK531 HB; have HO507 := n0_; have HO512 := n1_; have HO517 := n2_; have HO523 := n3_; have HO529 := n4_; have HO535 := n5_; have BK508 := n6_; have BK513 := n7_; have BK519 := n8_; have BK525 := n9_; have BK531 := n10_; have HB := n11_; have BK537 := n12_; have GE537 := n13_; have NB508_537 := n14_; have NB537_508 := n15_; have NB513_537 := n16_; have NB537_513 := n17_; have NB519_537 := n18_; have NB537_519 := n19_; have NB525_537 := n20_; have NB537_525 := n21_; have NB531_537 := n22_; have NB537_531 := n23_; clear n0_ n1_ n2_ n3_ n4_ n5_ n6_ n7_ n8_ n9_ n10_ n11_ n12_ n13_ n14_ n15_ n16_ n17_ n18_ n19_ n20_ n21_ n22_ n23_; clear hb hbox hg; have hnb61 := NB537_508.out; have hnc61 := NB508_537.out; have hnb62 := NB537_513.out; have hnc62 := NB513_537.out; have hnb63 := NB537_519.out; have hnc63 := NB519_537.out; have hnb64 := NB537_525.out; have hnc64 := NB525_537.out; have hnb65 := NB537_531.out; have hnc65 := NB531_537.out; have hcz66_0 : w60.cell? ⟨gb537, 0, none⟩ = some (.bool false) := (blk_cell BK537.out 0).trans rfl; have hcz66_1 : w60.cell? ⟨gb537, 1, none⟩ = some (.slice none 0 0) := (blk_cell BK537.out 1).trans rfl; have hfz66_0 := blk_frozen BK537.out 0; have hfz66_1 := blk_frozen BK537.out 1; obtain ⟨Ao67, co67, eo67⟩ := Kd.V_slice HO535.out; subst eo67))
         have n0_ : Aside0 (Kd.V (Kd.int .i64) 3 ((w60.setCell ⟨gb537, 0, none⟩ (.bool t532)).setCell ⟨gb537, 1, none⟩ (.slice Ao67 t533.length co67)) w.heap.size (fun k_ => k_ ≠ gb508 ∧ k_ ≠ gb513 ∧ k_ ≠ gb519 ∧ k_ ≠ gb525 ∧ k_ ≠ gb531 ∧ k_ ≠ gb537) (.slice Ao26 t505.length co26) t505) := ⟨by (with_reducible repeat (first | apply Kd.V_alloc | apply Kd.V_drewN | apply Kd.V_drew)); exact Kd.V_mono (Kd.V_far (p := ⟨gb537, 1, none⟩) (Kd.V_far (p := ⟨gb537, 0, none⟩) (Kd.V_mono HO507.out (fun k_ hk => (⟨hk, hk.2⟩ : _ ∧ k_ ≠ gb537))) (fun _ hk => hk.2) (.bool t532)) (fun _ hk => hk.2) (.slice Ao67 t533.length co67)) (fun _ hk => ⟨hk.1.1.1, ⟨hk.1.1.2.1, ⟨hk.1.1.2.2.1, ⟨hk.1.1.2.2.2.1, ⟨hk.1.1.2.2.2.2, hk.1.2⟩⟩⟩⟩⟩)⟩
         have n1_ : Aside0 (Kd.V (Kd.int .i64) 3 ((w60.setCell ⟨gb537, 0, none⟩ (.bool t532)).setCell ⟨gb537, 1, none⟩ (.slice Ao67 t533.length co67)) w.heap.size (fun k_ => k_ ≠ gb508 ∧ k_ ≠ gb513 ∧ k_ ≠ gb519 ∧ k_ ≠ gb525 ∧ k_ ≠ gb531 ∧ k_ ≠ gb537) (.slice Ao31 t510.length co31) t510) := ⟨by (with_reducible repeat (first | apply Kd.V_alloc | apply Kd.V_drewN | apply Kd.V_drew)); exact Kd.V_mono (Kd.V_far (p := ⟨gb537, 1, none⟩) (Kd.V_far (p := ⟨gb537, 0, none⟩) (Kd.V_mono HO512.out (fun k_ hk => (⟨hk, hk.2⟩ : _ ∧ k_ ≠ gb537))) (fun _ hk => hk.2) (.bool t532)) (fun _ hk => hk.2) (.slice Ao67 t533.length co67)) (fun _ hk => ⟨hk.1.1.1, ⟨hk.1.1.2.1, ⟨hk.1.1.2.2.1, ⟨hk.1.1.2.2.2.1, ⟨hk.1.1.2.2.2.2, hk.1.2⟩⟩⟩⟩⟩)⟩
         have n2_ : Aside0 (Kd.V (Kd.int .u32) 81 ((w60.setCell ⟨gb537, 0, none⟩ (.bool t532)).setCell ⟨gb537, 1, none⟩ (.slice Ao67 t533.length co67)) w.heap.size (fun k_ => k_ ≠ gb508 ∧ k_ ≠ gb513 ∧ k_ ≠ gb519 ∧ k_ ≠ gb525 ∧ k_ ≠ gb531 ∧ k_ ≠ gb537) (.slice Ao38 t515.length co38) t515) := ⟨by (with_reducible repeat (first | apply Kd.V_alloc | apply Kd.V_drewN | apply Kd.V_drew)); exact Kd.V_mono (Kd.V_far (p := ⟨gb537, 1, none⟩) (Kd.V_far (p := ⟨gb537, 0, none⟩) (Kd.V_mono HO517.out (fun k_ hk => (⟨hk, hk.2⟩ : _ ∧ k_ ≠ gb537))) (fun _ hk => hk.2) (.bool t532)) (fun _ hk => hk.2) (.slice Ao67 t533.length co67)) (fun _ hk => ⟨hk.1.1.1, ⟨hk.1.1.2.1, ⟨hk.1.1.2.2.1, ⟨hk.1.1.2.2.2.1, ⟨hk.1.1.2.2.2.2, hk.1.2⟩⟩⟩⟩⟩)⟩
         have n3_ : Aside0 (Kd.V (Kd.int .u32) 81 ((w60.setCell ⟨gb537, 0, none⟩ (.bool t532)).setCell ⟨gb537, 1, none⟩ (.slice Ao67 t533.length co67)) w.heap.size (fun k_ => k_ ≠ gb508 ∧ k_ ≠ gb513 ∧ k_ ≠ gb519 ∧ k_ ≠ gb525 ∧ k_ ≠ gb531 ∧ k_ ≠ gb537) (.slice Ao46 t521.length co46) t521) := ⟨by (with_reducible repeat (first | apply Kd.V_alloc | apply Kd.V_drewN | apply Kd.V_drew)); exact Kd.V_mono (Kd.V_far (p := ⟨gb537, 1, none⟩) (Kd.V_far (p := ⟨gb537, 0, none⟩) (Kd.V_mono HO523.out (fun k_ hk => (⟨hk, hk.2⟩ : _ ∧ k_ ≠ gb537))) (fun _ hk => hk.2) (.bool t532)) (fun _ hk => hk.2) (.slice Ao67 t533.length co67)) (fun _ hk => ⟨hk.1.1.1, ⟨hk.1.1.2.1, ⟨hk.1.1.2.2.1, ⟨hk.1.1.2.2.2.1, ⟨hk.1.1.2.2.2.2, hk.1.2⟩⟩⟩⟩⟩)⟩
         have n4_ : Aside0 (Kd.V (Kd.int .u32) 81 ((w60.setCell ⟨gb537, 0, none⟩ (.bool t532)).setCell ⟨gb537, 1, none⟩ (.slice Ao67 t533.length co67)) w.heap.size (fun k_ => k_ ≠ gb508 ∧ k_ ≠ gb513 ∧ k_ ≠ gb519 ∧ k_ ≠ gb525 ∧ k_ ≠ gb531 ∧ k_ ≠ gb537) (.slice Ao55 t527.length co55) t527) := ⟨by (with_reducible repeat (first | apply Kd.V_alloc | apply Kd.V_drewN | apply Kd.V_drew)); exact Kd.V_mono (Kd.V_far (p := ⟨gb537, 1, none⟩) (Kd.V_far (p := ⟨gb537, 0, none⟩) (Kd.V_mono HO529.out (fun k_ hk => (⟨hk, hk.2⟩ : _ ∧ k_ ≠ gb537))) (fun _ hk => hk.2) (.bool t532)) (fun _ hk => hk.2) (.slice Ao67 t533.length co67)) (fun _ hk => ⟨hk.1.1.1, ⟨hk.1.1.2.1, ⟨hk.1.1.2.2.1, ⟨hk.1.1.2.2.2.1, ⟨hk.1.1.2.2.2.2, hk.1.2⟩⟩⟩⟩⟩)⟩
         have n5_ : Aside0 (Kd.V (Kd.int .u32) 81 ((w60.setCell ⟨gb537, 0, none⟩ (.bool t532)).setCell ⟨gb537, 1, none⟩ (.slice Ao67 t533.length co67)) w.heap.size (fun k_ => k_ ≠ gb508 ∧ k_ ≠ gb513 ∧ k_ ≠ gb519 ∧ k_ ≠ gb525 ∧ k_ ≠ gb531 ∧ k_ ≠ gb537) (.slice Ao67 t533.length co67) t533) := ⟨by (with_reducible repeat (first | apply Kd.V_alloc | apply Kd.V_drewN | apply Kd.V_drew)); exact Kd.V_mono (Kd.V_far (p := ⟨gb537, 1, none⟩) (Kd.V_far (p := ⟨gb537, 0, none⟩) (Kd.V_mono HO535.out (fun k_ hk => (⟨hk, hk.2⟩ : _ ∧ k_ ≠ gb537))) (fun _ hk => hk.2) (.bool t532)) (fun _ hk => hk.2) (.slice Ao67 t533.length co67)) (fun _ hk => ⟨hk.1.1.1, ⟨hk.1.1.2.1, ⟨hk.1.1.2.2.1, ⟨hk.1.1.2.2.2.1, ⟨hk.1.1.2.2.2.2, hk.1.2⟩⟩⟩⟩⟩)⟩
         have n6_ : Aside0 (((w60.setCell ⟨gb537, 0, none⟩ (.bool t532)).setCell ⟨gb537, 1, none⟩ (.slice Ao67 t533.length co67)).heap[gb508]? = some (.cells #[.bool t504, .slice Ao26 t505.length co26] 25 (0, 0))) := ⟨by (with_reducible repeat (first | refine blk_drewN ?_ _ | refine blk_drew ?_ | refine blk_alloc ?_ _)); refine blk_far ?_ NB508_537.out _; (with_reducible repeat (first | refine blk_drewN ?_ _ | refine blk_drew ?_ | refine blk_alloc ?_ _)); refine blk_far ?_ NB508_537.out _; (with_reducible repeat (first | refine blk_drewN ?_ _ | refine blk_drew ?_ | refine blk_alloc ?_ _)); exact BK508.out⟩
         have n7_ : Aside0 (((w60.setCell ⟨gb537, 0, none⟩ (.bool t532)).setCell ⟨gb537, 1, none⟩ (.slice Ao67 t533.length co67)).heap[gb513]? = some (.cells #[.bool t509, .slice Ao31 t510.length co31] 25 (0, 0))) := ⟨by (with_reducible repeat (first | refine blk_drewN ?_ _ | refine blk_drew ?_ | refine blk_alloc ?_ _)); refine blk_far ?_ NB513_537.out _; (with_reducible repeat (first | refine blk_drewN ?_ _ | refine blk_drew ?_ | refine blk_alloc ?_ _)); refine blk_far ?_ NB513_537.out _; (with_reducible repeat (first | refine blk_drewN ?_ _ | refine blk_drew ?_ | refine blk_alloc ?_ _)); exact BK513.out⟩
         have n8_ : Aside0 (((w60.setCell ⟨gb537, 0, none⟩ (.bool t532)).setCell ⟨gb537, 1, none⟩ (.slice Ao67 t533.length co67)).heap[gb519]? = some (.cells #[.bool t514, .slice Ao38 t515.length co38] 33 (0, 0))) := ⟨by (with_reducible repeat (first | refine blk_drewN ?_ _ | refine blk_drew ?_ | refine blk_alloc ?_ _)); refine blk_far ?_ NB519_537.out _; (with_reducible repeat (first | refine blk_drewN ?_ _ | refine blk_drew ?_ | refine blk_alloc ?_ _)); refine blk_far ?_ NB519_537.out _; (with_reducible repeat (first | refine blk_drewN ?_ _ | refine blk_drew ?_ | refine blk_alloc ?_ _)); exact BK519.out⟩
         have n9_ : Aside0 (((w60.setCell ⟨gb537, 0, none⟩ (.bool t532)).setCell ⟨gb537, 1, none⟩ (.slice Ao67 t533.length co67)).heap[gb525]? = some (.cells #[.bool t520, .slice Ao46 t521.length co46] 33 (0, 0))) := ⟨by (with_reducible repeat (first | refine blk_drewN ?_ _ | refine blk_drew ?_ | refine blk_alloc ?_ _)); refine blk_far ?_ NB525_537.out _; (with_reducible repeat (first | refine blk_drewN ?_ _ | refine blk_drew ?_ | refine blk_alloc ?_ _)); refine blk_far ?_ NB525_537.out _; (with_reducible repeat (first | refine blk_drewN ?_ _ | refine blk_drew ?_ | refine blk_alloc ?_ _)); exact BK525.out⟩
         have n10_ : Aside0 (((w60.setCell ⟨gb537, 0, none⟩ (.bool t532)).setCell ⟨gb537, 1, none⟩ (.slice Ao67 t533.length co67)).heap[gb531]? = some (.cells #[.bool t526, .slice Ao55 t527.length co55] 33 (0, 0))) := ⟨by (with_reducible repeat (first | refine blk_drewN ?_ _ | refine blk_drew ?_ | refine blk_alloc ?_ _)); refine blk_far ?_ NB531_537.out _; (with_reducible repeat (first | refine blk_drewN ?_ _ | refine blk_drew ?_ | refine blk_alloc ?_ _)); refine blk_far ?_ NB531_537.out _; (with_reducible repeat (first | refine blk_drewN ?_ _ | refine blk_drew ?_ | refine blk_alloc ?_ _)); exact BK531.out⟩
         have n11_ : Aside0 (((w60.setCell ⟨gb537, 0, none⟩ (.bool t532)).setCell ⟨gb537, 1, none⟩ (.slice Ao67 t533.length co67)).heap[gb537]? = some (.cells #[.bool t532, .slice Ao67 t533.length co67] 33 (0, 0))) := ⟨by (with_reducible repeat (first | refine blk_drewN ?_ _ | refine blk_drew ?_ | refine blk_alloc ?_ _)); refine blk_put (cs := #[.bool t532, .slice none 0 0]) ?_ 1 _ rfl; (with_reducible repeat (first | refine blk_drewN ?_ _ | refine blk_drew ?_ | refine blk_alloc ?_ _)); refine blk_put (cs := #[.bool false, .slice none 0 0]) ?_ 0 _ rfl; (with_reducible repeat (first | refine blk_drewN ?_ _ | refine blk_drew ?_ | refine blk_alloc ?_ _)); exact BK537.out⟩
         have n12_ : Aside0 (Below w.heap.size w ((w60.setCell ⟨gb537, 0, none⟩ (.bool t532)).setCell ⟨gb537, 1, none⟩ (.slice Ao67 t533.length co67))) := ⟨by repeat (first | (with_reducible first | exact HB.out | apply below_alloc | apply pw_below_drewN | apply below_drew1 | refine below_set ?_ GE508.out | refine below_set ?_ GE513.out | refine below_set ?_ GE519.out | refine below_set ?_ GE525.out | refine below_set ?_ GE531.out | refine below_set ?_ GE537.out) | exact HB.out)⟩
         
         generalize ((w60.setCell ⟨gb537, 0, none⟩ (.bool t532)).setCell ⟨gb537, 1, none⟩ (.slice Ao67 t533.length co67)) = w68 at n0_ n1_ n2_ n3_ n4_ n5_ n6_ n7_ n8_ n9_ n10_ n11_ n12_ ⊢
         have HO507 := n0_; have HO512 := n1_; have HO517 := n2_; have HO523 := n3_; have HO529 := n4_; have HO535 := n5_; have BK508 := n6_; have BK513 := n7_; have BK519 := n8_; have BK525 := n9_; have BK531 := n10_; have BK537 := n11_; have HB := n12_; clear n0_ n1_ n2_ n3_ n4_ n5_ n6_ n7_ n8_ n9_ n10_ n11_ n12_; replace HO507 := am_ (Kd.V_drew HO507.out); replace HO512 := am_ (Kd.V_drew HO512.out); replace HO517 := am_ (Kd.V_drew HO517.out); replace HO523 := am_ (Kd.V_drew HO523.out); replace HO529 := am_ (Kd.V_drew HO529.out); replace HO535 := am_ (Kd.V_drew HO535.out); replace BK508 := am_ (blk_drew BK508.out); replace BK513 := am_ (blk_drew BK513.out); replace BK519 := am_ (blk_drew BK519.out); replace BK525 := am_ (blk_drew BK525.out); replace BK531 := am_ (blk_drew BK531.out); replace BK537 := am_ (blk_drew BK537.out); replace HB := am_ (below_drew1 HB.out)
         refine start_ (n := 40) (S := fun w' => w'.cell? ⟨gb531, 0, none⟩ = some (.bool t526) ∧ w'.cell? ⟨gb531, 1, none⟩ = some (.slice Ao55 t527.length co55) ∧ w'.cell? ⟨gb508, 0, none⟩ = some (.bool t504) ∧ w'.cell? ⟨gb508, 1, none⟩ = some (.slice Ao26 t505.length co26) ∧ w'.cell? ⟨gb513, 0, none⟩ = some (.bool t509) ∧ w'.cell? ⟨gb513, 1, none⟩ = some (.slice Ao31 t510.length co31) ∧ w'.cell? ⟨gb537, 0, none⟩ = some (.bool t532) ∧ w'.cell? ⟨gb537, 1, none⟩ = some (.slice Ao67 t533.length co67) ∧ w'.cell? ⟨gb519, 0, none⟩ = some (.bool t514) ∧ w'.cell? ⟨gb519, 1, none⟩ = some (.slice Ao38 t515.length co38) ∧ w'.cell? ⟨gb525, 0, none⟩ = some (.bool t520) ∧ w'.cell? ⟨gb525, 1, none⟩ = some (.slice Ao46 t521.length co46)) (ds := []) #[false, false, false, false, false, false, false, false, false, false, false, false, false, false, false, false, false, false, false, false, false, false, false, false, false, false, false, false, false, false, false, false, false, false, false, false, false, false, false, false] (by kernel_rfl) rfl rfl ⟨(blk_cell BK531.out 0).trans rfl, (blk_cell BK531.out 1).trans rfl, (blk_cell BK508.out 0).trans rfl, (blk_cell BK508.out 1).trans rfl, (blk_cell BK513.out 0).trans rfl, (blk_cell BK513.out 1).trans rfl, (blk_cell BK537.out 0).trans rfl, (blk_cell BK537.out 1).trans rfl, (blk_cell BK519.out 0).trans rfl, (blk_cell BK519.out 1).trans rfl, (blk_cell BK525.out 0).trans rfl, (blk_cell BK525.out 1).trans rfl⟩ (fun hHeld => ?_); refine with_tabW worldmintlaw05_WideSums.tab7 worldmintlaw05_WideSums.bits7 (fun HT_ HW_ => ?_)
         generalize w68.drew = w69 at HO507 HO512 HO517 HO523 HO529 HO535 BK508 BK513 BK519 BK525 BK531 BK537 HB hHeld ⊢
         refine pure_ (i := 0) (N := some 39) (v := ?_) (a' := ?_) #[true, false, false, false, false, false, false, false, false, false, false, false, false, false, false, false, false, false, false, false, false, false, false, false, false, false, false, false, false, false, false, false, false, false, false, false, false, false, false, false] rfl rfl (any_of HT_.out (by kernel_rfl)) (fun _ _ _ h => h) (Or.inl ⟨by rfl, ?_⟩) ?_ ?_
         rotate_left
         ·intro w'
          go_simp
          with_reducible rfl
         rotate_left
         ·exact za_
         refine pure_ (i := 1) (N := some 40) (v := ?_) (a' := ?_) #[true, true, false, false, false, false, false, false, false, false, false, false, false, false, false, false, false, false, false, false, false, false, false, false, false, false, false, false, false, false, false, false, false, false, false, false, false, false, false, false] rfl rfl (any_of HT_.out (by kernel_rfl)) (fun _ _ _ h => h) (Or.inl ⟨by rfl, ?_⟩) ?_ ?_
         rotate_left
         ·intro w'
          go_simp
          with_reducible rfl
         rotate_left
         ·exact za_
         refine pure_ (i := 2) (N := some 41) (v := ?_) (a' := ?_) #[true, true, true, false, false, false, false, false, false, false, false, false, false, false, false, false, false, false, false, false, false, false, false, false, false, false, false, false, false, false, false, false, false, false, false, false, false, false, false, false] rfl rfl (any_of HT_.out (by kernel_rfl)) (fun _ _ _ h => h) (Or.inl ⟨by rfl, ?_⟩) ?_ ?_
         rotate_left
         ·intro w'
          go_simp
          with_reducible rfl
         rotate_left
         ·exact za_
         refine pure_ (i := 3) (N := some 42) (v := ?_) (a' := ?_) #[true, true, true, true, false, false, false, false, false, false, false, false, false, false, false, false, false, false, false, false, false, false, false, false, false, false, false, false, false, false, false, false, false, false, false, false, false, false, false, false] rfl rfl (any_of HT_.out (by kernel_rfl)) (fun _ _ _ h => h) (Or.inl ⟨by rfl, ?_⟩) ?_ ?_
         rotate_left
         ·intro w'
          go_simp
          with_reducible rfl
         rotate_left
         ·exact za_
         refine pure_ (i := 4) (N := some 43) (v := ?_) (a' := ?_) #[true, true, true, true, true, false, false, false, false, false, false, false, false, false, false, false, false, false, false, false, false, false, false, false, false, false, false, false, false, false, false, false, false, false, false, false, false, false, false, false] rfl rfl (any_of HT_.out (by kernel_rfl)) (fun _ _ _ h => h) (Or.inl ⟨by rfl, ?_⟩) ?_ ?_
         rotate_left
         ·intro w'
          go_simp
          with_reducible rfl
         rotate_left
         ·exact za_
         refine pure_ (i := 5) (N := some 44) (v := ?_) (a' := ?_) #[true, true, true, true, true, true, false, false, false, false, false, false, false, false, false, false, false, false, false, false, false, false, false, false, false, false, false, false, false, false, false, false, false, false, false, false, false, false, false, false] rfl rfl (any_of HT_.out (by kernel_rfl)) (fun _ _ _ h => h) (Or.inl ⟨by rfl, ?_⟩) ?_ ?_
         rotate_left
         ·intro w'
          go_simp
          with_reducible rfl
         rotate_left
         ·exact za_
         refine pure_ (i := 6) (N := some 45) (v := ?_) (a' := ?_) #[true, true, true, true, true, true, true, false, false, false, false, false, false, false, false, false, false, false, false, false, false, false, false, false, false, false, false, false, false, false, false, false, false, false, false, false, false, false, false, false] rfl rfl (any_of HT_.out (by kernel_rfl)) (fun _ _ _ h => h) (Or.inl ⟨by rfl, ?_⟩) ?_ ?_
         rotate_left
         ·intro w'
          go_simp
          with_reducible rfl
         rotate_left
         ·exact za_
         refine pure_ (i := 7) (N := some 46) (v := ?_) (a' := ?_) #[true, true, true, true, true, true, true, true, false, false, false, false, false, false, false, false, false, false, false, false, false, false, false, false, false, false, false, false, false, false, false, false, false, false, false, false, false, false, false, false] rfl rfl (any_of HT_.out (by kernel_rfl)) (fun _ _ _ h => h) (Or.inl ⟨by rfl, ?_⟩) ?_ ?_
         rotate_left
         ·intro w'
          go_simp
          with_reducible rfl
         rotate_left
         ·exact za_
         refine pure_ (i := 8) (N := some 47) (v := ?_) (a' := ?_) #[true, true, true, true, true, true, true, true, true, false, false, false, false, false, false, false, false, false, false, false, false, false, false, false, false, false, false, false, false, false, false, false, false, false, false, false, false, false, false, false] rfl rfl (any_of HT_.out (by kernel_rfl)) (fun _ _ _ h => h) (Or.inl ⟨by rfl, ?_⟩) ?_ ?_
         rotate_left
         ·intro w'
          go_simp
          with_reducible rfl
         rotate_left
         ·exact za_
         refine pure_ (i := 9) (N := some 48) (v := ?_) (a' := ?_) #[true, true, true, true, true, true, true, true, true, true, false, false, false, false, false, false, false, false, false, false, false, false, false, false, false, false, false, false, false, false, false, false, false, false, false, false, false, false, false, false] rfl rfl (any_of HT_.out (by kernel_rfl)) (fun _ _ _ h => h) (Or.inl ⟨by rfl, ?_⟩) ?_ ?_
         rotate_left
         ·intro w'
          go_simp
          with_reducible rfl
         rotate_left
         ·exact za_
         refine pure_ (i := 10) (N := some 49) (v := ?_) (a' := ?_) #[true, true, true, true, true, true, true, true, true, true, true, false, false, false, false, false, false, false, false, false, false, false, false, false, false, false, false, false, false, false, false, false, false, false, false, false, false, false, false, false] rfl rfl (any_of HT_.out (by kernel_rfl)) (fun _ _ _ h => h) (Or.inl ⟨by rfl, ?_⟩) ?_ ?_
         rotate_left
         ·intro w'
          go_simp
          with_reducible rfl
         rotate_left
         ·exact za_
         refine pure_ (i := 11) (N := some 50) (v := ?_) (a' := ?_) #[true, true, true, true, true, true, true, true, true, true, true, true, false, false, false, false, false, false, false, false, false, false, false, false, false, false, false, false, false, false, false, false, false, false, false, false, false, false, false, false] rfl rfl (any_of HT_.out (by kernel_rfl)) (fun _ _ _ h => h) (Or.inl ⟨by rfl, ?_⟩) ?_ ?_
         rotate_left
         ·intro w'
          go_simp
          with_reducible rfl
         rotate_left
         ·exact za_
         refine pure_ (i := 12) (N := some 51) (v := ?_) (a' := ?_) #[true, true, true, true, true, true, true, true, true, true, true, true, true, false, false, false, false, false, false, false, false, false, false, false, false, false, false, false, false, false, false, false, false, false, false, false, false, false, false, false] rfl rfl (any_of HT_.out (by kernel_rfl)) (fun _ _ _ h => h) (Or.inl ⟨by rfl, ?_⟩) ?_ ?_
         rotate_left
         ·intro w'
          go_simp
          with_reducible rfl
         rotate_left
         ·exact za_
         refine take_ (i := 13) (N := some 52) (v := ?_) (a' := ?_) #[true, true, true, true, true, true, true, true, true, true, true, true, true, true, false, false, false, false, false, false, false, false, false, false, false, false, false, false, false, false, false, false, false, false, false, false, false, false, false, false] rfl rfl (take_ofW HT_.out HW_.out (by kernel_rfl)) (fun _ _ _ h => h) (Or.inl ⟨by rfl, ?_⟩) hHeld ?_ ?_
         rotate_left
         ·rintro w' ⟨s0, s1, s2, s3, s4, s5, s6, s7, s8, s9, s10, s11⟩
          go_simp
          with_reducible rfl
         rotate_left
         ·exact za_
         refine take_ (i := 14) (N := some 53) (v := ?_) (a' := ?_) #[true, true, true, true, true, true, true, true, true, true, true, true, true, true, true, false, false, false, false, false, false, false, false, false, false, false, false, false, false, false, false, false, false, false, false, false, false, false, false, false] rfl rfl (take_ofW HT_.out HW_.out (by kernel_rfl)) (fun _ _ _ h => h) (Or.inl ⟨by rfl, ?_⟩) hHeld ?_ ?_
         rotate_left
         ·rintro w' ⟨s0, s1, s2, s3, s4, s5, s6, s7, s8, s9, s10, s11⟩
          go_simp
          with_reducible rfl
         rotate_left
         ·exact za_
         refine take_ (i := 15) (N := some 54) (v := ?_) (a' := ?_) #[true, true, true, true, true, true, true, true, true, true, true, true, true, true, true, true, false, false, false, false, false, false, false, false, false, false, false, false, false, false, false, false, false, false, false, false, false, false, false, false] rfl rfl (take_ofW HT_.out HW_.out (by kernel_rfl)) (fun _ _ _ h => h) (Or.inl ⟨by rfl, ?_⟩) hHeld ?_ ?_
         rotate_left
         ·rintro w' ⟨s0, s1, s2, s3, s4, s5, s6, s7, s8, s9, s10, s11⟩
          go_simp
          with_reducible rfl
         rotate_left
         ·exact za_
         refine one_ (i := 16) (N := some 55) #[true, true, true, true, true, true, true, true, true, true, true, true, true, true, true, true, true, false, false, false, false, false, false, false, false, false, false, false, false, false, false, false, false, false, false, false, false, false, false, false] rfl rfl (one_of HT_.out (by kernel_rfl)) (by decide) (fun K hK => ?_)
         refine goes_ Tryz.func29 (by kernel_rfl) rfl #[.agg #[.bool t504, .slice Ao26 t505.length co26], .agg #[.bool t509, .slice Ao31 t510.length co31]] (by rfl) rfl rfl zq6 ?_
         with_reducible refine (worldmintref05_Add.calls k t504 _ _ t505 t509 _ _ t510 t538 t539 _ ?side1 ?side2 ?side3 ?side4 A12.out).mono ?_
         (case side1 => exact (zq31 HO507.out))
         (case side2 => exact (Kd.V_reads' HO507.out).2.1)
         (case side3 => exact (zq31 HO512.out))
         (case side4 => exact (Kd.V_reads' HO512.out).2.1)
         rintro e w70 ⟨v540, rfl, ho0, hb⟩
         refine ⟨_, rfl, ?_⟩
         replace HO507 := am_ (Kd.V_below (zq1 HO507.out) hb); replace HO512 := am_ (Kd.V_below (zq1 HO512.out) hb); replace HO517 := am_ (Kd.V_below (zq1 HO517.out) hb); replace HO523 := am_ (Kd.V_below (zq1 HO523.out) hb); replace HO529 := am_ (Kd.V_below (zq1 HO529.out) hb); replace HO535 := am_ (Kd.V_below (zq1 HO535.out) hb); have HO541 := am_ (Kd.V_lower (Kd.V_mono (ok' := fun k_ => k_ ≠ gb508 ∧ k_ ≠ gb513 ∧ k_ ≠ gb519 ∧ k_ ≠ gb525 ∧ k_ ≠ gb531 ∧ k_ ≠ gb537) ho0 (fun k_ hk_ => ⟨(Kd.freshB (g := gb508) (o := .cells #[.bool t504, .slice Ao26 t505.length co26] 25 (0, 0)) (zq9 BK508.out) k_ hk_), (Kd.freshB (g := gb513) (o := .cells #[.bool t509, .slice Ao31 t510.length co31] 25 (0, 0)) (zq9 BK513.out) k_ hk_), (Kd.freshB (g := gb519) (o := .cells #[.bool t514, .slice Ao38 t515.length co38] 33 (0, 0)) (zq9 BK519.out) k_ hk_), (Kd.freshB (g := gb525) (o := .cells #[.bool t520, .slice Ao46 t521.length co46] 33 (0, 0)) (zq9 BK525.out) k_ hk_), (Kd.freshB (g := gb531) (o := .cells #[.bool t526, .slice Ao55 t527.length co55] 33 (0, 0)) (zq9 BK531.out) k_ hk_), (Kd.freshB (g := gb537) (o := .cells #[.bool t532, .slice Ao67 t533.length co67] 33 (0, 0)) (zq9 BK537.out) k_ hk_)⟩)) (below_size zq115)); replace BK508 := am_ (blk_below (g := gb508) (o := .cells #[.bool t504, .slice Ao26 t505.length co26] 25 (0, 0)) (zq9 BK508.out) hb); replace BK513 := am_ (blk_below (g := gb513) (o := .cells #[.bool t509, .slice Ao31 t510.length co31] 25 (0, 0)) (zq9 BK513.out) hb); replace BK519 := am_ (blk_below (g := gb519) (o := .cells #[.bool t514, .slice Ao38 t515.length co38] 33 (0, 0)) (zq9 BK519.out) hb); replace BK525 := am_ (blk_below (g := gb525) (o := .cells #[.bool t520, .slice Ao46 t521.length co46] 33 (0, 0)) (zq9 BK525.out) hb); replace BK531 := am_ (blk_below (g := gb531) (o := .cells #[.bool t526, .slice Ao55 t527.length co55] 33 (0, 0)) (zq9 BK531.out) hb); replace BK537 := am_ (blk_below (g := gb537) (o := .cells #[.bool t532, .slice Ao67 t533.length co67] 33 (0, 0)) (zq9 BK537.out) hb); replace HB := am_ (below_step zq115 hb); (try clear hb); (try clear ho0)
         obtain ⟨Ao71, co71, eo71⟩ := Kd.V_slice HO541.out
         (first | subst eo71 | (injection eo71 with f1_ f2_ f3_; have f4_ := f1_.symm; have f5_ := f3_.symm; clear f1_ f2_ f3_; subst f4_; subst f5_))
         refine hK.out _ _ ⟨(blk_cell BK531.out 0).trans rfl, (blk_cell BK531.out 1).trans rfl, (blk_cell BK508.out 0).trans rfl, (blk_cell BK508.out 1).trans rfl, (blk_cell BK513.out 0).trans rfl, (blk_cell BK513.out 1).trans rfl, (blk_cell BK537.out 0).trans rfl, (blk_cell BK537.out 1).trans rfl, (blk_cell BK519.out 0).trans rfl, (blk_cell BK519.out 1).trans rfl, (blk_cell BK525.out 0).trans rfl, (blk_cell BK525.out 1).trans rfl⟩ (fun hHeld => ?_)
         clear hK K
         refine norm_ (a' := ?_) ?_ ?_
         rotate_left
         ·show Act.put _ (some 55) _ = _
          exact za_
         refine one_ (i := 17) (N := some 56) #[true, true, true, true, true, true, true, true, true, true, true, true, true, true, true, true, true, true, false, false, false, false, false, false, false, false, false, false, false, false, false, false, false, false, false, false, false, false, false, false] rfl rfl (one_of HT_.out (by kernel_rfl)) (by decide) (fun K hK => ?_)
         refine goes_ Tryz.func18 (by kernel_rfl) rfl #[.agg #[.bool t526, .slice Ao55 t527.length co55], .agg #[.bool t538, .slice Ao71 t539.length co71]] (by rfl) rfl rfl zq6 ?_
         with_reducible refine (worldmintlaw05_equal.calls k t526 _ _ t527 t538 _ _ t539 true _ ?side1 ?side2 ?side3 ?side4 A13.out zq116).mono ?_
         (case side1 => exact (zq31 HO529.out))
         (case side2 => exact (Kd.V_reads' HO529.out).2.1)
         (case side3 => exact (zq31 HO541.out))
         (case side4 => exact (Kd.V_reads' HO541.out).2.1)
         rintro e w72 ⟨rfl, hb⟩
         refine ⟨_, rfl, ?_⟩
         replace HO507 := am_ (Kd.V_below (zq1 HO507.out) hb); replace HO512 := am_ (Kd.V_below (zq1 HO512.out) hb); replace HO517 := am_ (Kd.V_below (zq1 HO517.out) hb); replace HO523 := am_ (Kd.V_below (zq1 HO523.out) hb); replace HO535 := am_ (Kd.V_below (zq1 HO535.out) hb); replace BK508 := am_ (blk_below (g := gb508) (o := .cells #[.bool t504, .slice Ao26 t505.length co26] 25 (0, 0)) (zq9 BK508.out) hb); replace BK513 := am_ (blk_below (g := gb513) (o := .cells #[.bool t509, .slice Ao31 t510.length co31] 25 (0, 0)) (zq9 BK513.out) hb); replace BK519 := am_ (blk_below (g := gb519) (o := .cells #[.bool t514, .slice Ao38 t515.length co38] 33 (0, 0)) (zq9 BK519.out) hb); replace BK525 := am_ (blk_below (g := gb525) (o := .cells #[.bool t520, .slice Ao46 t521.length co46] 33 (0, 0)) (zq9 BK525.out) hb); replace BK531 := am_ (blk_below (g := gb531) (o := .cells #[.bool t526, .slice Ao55 t527.length co55] 33 (0, 0)) (zq9 BK531.out) hb); replace BK537 := am_ (blk_below (g := gb537) (o := .cells #[.bool t532, .slice Ao67 t533.length co67] 33 (0, 0)) (zq9 BK537.out) hb); replace HB := am_ (below_step zq115 hb); (try clear hb)
         refine hK.out _ _ ⟨(blk_cell BK531.out 0).trans rfl, (blk_cell BK531.out 1).trans rfl, (blk_cell BK508.out 0).trans rfl, (blk_cell BK508.out 1).trans rfl, (blk_cell BK513.out 0).trans rfl, (blk_cell BK513.out 1).trans rfl, (blk_cell BK537.out 0).trans rfl, (blk_cell BK537.out 1).trans rfl, (blk_cell BK519.out 0).trans rfl, (blk_cell BK519.out 1).trans rfl, (blk_cell BK525.out 0).trans rfl, (blk_cell BK525.out 1).trans rfl⟩ (fun hHeld => ?_)
         clear hK K
         refine norm_ (a' := ?_) ?_ ?_
         rotate_left
         ·show Act.put _ (some 56) _ = _
          exact za_
         refine pure_ (i := 18) (N := some 57) (v := ?_) (a' := ?_) #[true, true, true, true, true, true, true, true, true, true, true, true, true, true, true, true, true, true, true, false, false, false, false, false, false, false, false, false, false, false, false, false, false, false, false, false, false, false, false, false] rfl rfl (any_of HT_.out (by kernel_rfl)) (fun _ _ _ h => h) (Or.inl ⟨by rfl, ?_⟩) ?_ ?_
         rotate_left
         ·intro w'
          go_simp
          with_reducible rfl
         rotate_left
         ·exact za_
         refine pure_ (i := 19) (N := some 58) (v := ?_) (a' := ?_) #[true, true, true, true, true, true, true, true, true, true, true, true, true, true, true, true, true, true, true, true, false, false, false, false, false, false, false, false, false, false, false, false, false, false, false, false, false, false, false, false] rfl rfl (any_of HT_.out (by kernel_rfl)) (fun _ _ _ h => h) (Or.inl ⟨by rfl, ?_⟩) ?_ ?_
         rotate_left
         ·intro w'
          go_simp
          with_reducible rfl
         rotate_left
         ·exact za_
         refine take_ (i := 20) (N := some 59) (v := ?_) (a' := ?_) #[true, true, true, true, true, true, true, true, true, true, true, true, true, true, true, true, true, true, true, true, true, false, false, false, false, false, false, false, false, false, false, false, false, false, false, false, false, false, false, false] rfl rfl (take_ofW HT_.out HW_.out (by kernel_rfl)) (fun _ _ _ h => h) (Or.inl ⟨by rfl, ?_⟩) hHeld ?_ ?_
         rotate_left
         ·rintro w' ⟨s0, s1, s2, s3, s4, s5, s6, s7, s8, s9, s10, s11⟩
          go_simp
          with_reducible rfl
         rotate_left
         ·exact za_
         refine take_ (i := 21) (N := some 60) (v := ?_) (a' := ?_) #[true, true, true, true, true, true, true, true, true, true, true, true, true, true, true, true, true, true, true, true, true, true, false, false, false, false, false, false, false, false, false, false, false, false, false, false, false, false, false, false] rfl rfl (take_ofW HT_.out HW_.out (by kernel_rfl)) (fun _ _ _ h => h) (Or.inl ⟨by rfl, ?_⟩) hHeld ?_ ?_
         rotate_left
         ·rintro w' ⟨s0, s1, s2, s3, s4, s5, s6, s7, s8, s9, s10, s11⟩
          go_simp
          with_reducible rfl
         rotate_left
         ·exact za_
         refine take_ (i := 22) (N := some 61) (v := ?_) (a' := ?_) #[true, true, true, true, true, true, true, true, true, true, true, true, true, true, true, true, true, true, true, true, true, true, true, false, false, false, false, false, false, false, false, false, false, false, false, false, false, false, false, false] rfl rfl (take_ofW HT_.out HW_.out (by kernel_rfl)) (fun _ _ _ h => h) (Or.inl ⟨by rfl, ?_⟩) hHeld ?_ ?_
         rotate_left
         ·rintro w' ⟨s0, s1, s2, s3, s4, s5, s6, s7, s8, s9, s10, s11⟩
          go_simp
          with_reducible rfl
         rotate_left
         ·exact za_
         refine one_ (i := 23) (N := some 62) #[true, true, true, true, true, true, true, true, true, true, true, true, true, true, true, true, true, true, true, true, true, true, true, true, false, false, false, false, false, false, false, false, false, false, false, false, false, false, false, false] rfl rfl (one_of HT_.out (by kernel_rfl)) (by decide) (fun K hK => ?_)
         refine goes_ Tryz.func34 (by kernel_rfl) rfl #[.agg #[.bool t504, .slice Ao26 t505.length co26], .agg #[.bool t509, .slice Ao31 t510.length co31]] (by rfl) rfl rfl zq6 ?_
         with_reducible refine (worldmintref05_Sub.calls k t504 _ _ t505 t509 (fun k_ => (k_ ≠ gb508 ∧ (k_ ≠ gb513 ∧ (k_ ≠ gb519 ∧ (k_ ≠ gb525 ∧ (k_ ≠ gb531 ∧ k_ ≠ gb537)))))) _ _ t510 t543 t544 _ ?side1 ?side2 ?side3 A15.out).mono ?_
         (case side1 => exact (zq31 HO507.out))
         (case side2 => exact (Kd.V_reads' HO507.out).2.1)
         (case side3 => exact HO512.out)
         rintro e w73 ⟨v545, rfl, ho0, hb⟩
         refine ⟨_, rfl, ?_⟩
         replace HO507 := am_ (Kd.V_below (zq1 HO507.out) hb); replace HO512 := am_ (Kd.V_below (zq1 HO512.out) hb); replace HO517 := am_ (Kd.V_below (zq1 HO517.out) hb); replace HO523 := am_ (Kd.V_below (zq1 HO523.out) hb); replace HO535 := am_ (Kd.V_below (zq1 HO535.out) hb); have HO546 := am_ (Kd.V_lower (Kd.V_mono (ok' := fun k_ => k_ ≠ gb508 ∧ k_ ≠ gb513 ∧ k_ ≠ gb519 ∧ k_ ≠ gb525 ∧ k_ ≠ gb531 ∧ k_ ≠ gb537) ho0 (fun k_ hk_ => ⟨Or.elim hk_ (fun hs_ => hs_.1) (fun hn_ => (Kd.freshB (g := gb508) (o := .cells #[.bool t504, .slice Ao26 t505.length co26] 25 (0, 0)) (zq9 BK508.out) k_ hn_)), Or.elim hk_ (fun hs_ => hs_.2.1) (fun hn_ => (Kd.freshB (g := gb513) (o := .cells #[.bool t509, .slice Ao31 t510.length co31] 25 (0, 0)) (zq9 BK513.out) k_ hn_)), Or.elim hk_ (fun hs_ => hs_.2.2.1) (fun hn_ => (Kd.freshB (g := gb519) (o := .cells #[.bool t514, .slice Ao38 t515.length co38] 33 (0, 0)) (zq9 BK519.out) k_ hn_)), Or.elim hk_ (fun hs_ => hs_.2.2.2.1) (fun hn_ => (Kd.freshB (g := gb525) (o := .cells #[.bool t520, .slice Ao46 t521.length co46] 33 (0, 0)) (zq9 BK525.out) k_ hn_)), Or.elim hk_ (fun hs_ => hs_.2.2.2.2.1) (fun hn_ => (Kd.freshB (g := gb531) (o := .cells #[.bool t526, .slice Ao55 t527.length co55] 33 (0, 0)) (zq9 BK531.out) k_ hn_)), Or.elim hk_ (fun hs_ => hs_.2.2.2.2.2) (fun hn_ => (Kd.freshB (g := gb537) (o := .cells #[.bool t532, .slice Ao67 t533.length co67] 33 (0, 0)) (zq9 BK537.out) k_ hn_))⟩)) (below_size zq115)); replace BK508 := am_ (blk_below (g := gb508) (o := .cells #[.bool t504, .slice Ao26 t505.length co26] 25 (0, 0)) (zq9 BK508.out) hb); replace BK513 := am_ (blk_below (g := gb513) (o := .cells #[.bool t509, .slice Ao31 t510.length co31] 25 (0, 0)) (zq9 BK513.out) hb); replace BK519 := am_ (blk_below (g := gb519) (o := .cells #[.bool t514, .slice Ao38 t515.length co38] 33 (0, 0)) (zq9 BK519.out) hb); replace BK525 := am_ (blk_below (g := gb525) (o := .cells #[.bool t520, .slice Ao46 t521.length co46] 33 (0, 0)) (zq9 BK525.out) hb); replace BK531 := am_ (blk_below (g := gb531) (o := .cells #[.bool t526, .slice Ao55 t527.length co55] 33 (0, 0)) (zq9 BK531.out) hb); replace BK537 := am_ (blk_below (g := gb537) (o := .cells #[.bool t532, .slice Ao67 t533.length co67] 33 (0, 0)) (zq9 BK537.out) hb); replace HB := am_ (below_step zq115 hb); (try clear hb); (try clear ho0)
         obtain ⟨Ao74, co74, eo74⟩ := Kd.V_slice HO546.out
         (first | subst eo74 | (injection eo74 with f1_ f2_ f3_; have f4_ := f1_.symm; have f5_ := f3_.symm; clear f1_ f2_ f3_; subst f4_; subst f5_))
         refine hK.out _ _ ⟨(blk_cell BK531.out 0).trans rfl, (blk_cell BK531.out 1).trans rfl, (blk_cell BK508.out 0).trans rfl, (blk_cell BK508.out 1).trans rfl, (blk_cell BK513.out 0).trans rfl, (blk_cell BK513.out 1).trans rfl, (blk_cell BK537.out 0).trans rfl, (blk_cell BK537.out 1).trans rfl, (blk_cell BK519.out 0).trans rfl, (blk_cell BK519.out 1).trans rfl, (blk_cell BK525.out 0).trans rfl, (blk_cell BK525.out 1).trans rfl⟩ (fun hHeld => ?_)
         clear hK K
         refine norm_ (a' := ?_) ?_ ?_
         rotate_left
         ·show Act.put _ (some 62) _ = _
          exact za_
         refine one_ (i := 24) (N := some 63) #[true, true, true, true, true, true, true, true, true, true, true, true, true, true, true, true, true, true, true, true, true, true, true, true, true, false, false, false, false, false, false, false, false, false, false, false, false, false, false, false] rfl rfl (one_of HT_.out (by kernel_rfl)) (by decide) (fun K hK => ?_)
         refine goes_ Tryz.func18 (by kernel_rfl) rfl #[.agg #[.bool t532, .slice Ao67 t533.length co67], .agg #[.bool t543, .slice Ao74 t544.length co74]] (by rfl) rfl rfl zq6 ?_
         with_reducible refine (worldmintlaw05_equal.calls k t532 _ _ t533 t543 _ _ t544 true _ ?side1 ?side2 ?side3 ?side4 A16.out zq116).mono ?_
         (case side1 => exact (zq31 HO535.out))
         (case side2 => exact (Kd.V_reads' HO535.out).2.1)
         (case side3 => exact (zq31 HO546.out))
         (case side4 => exact (Kd.V_reads' HO546.out).2.1)
         rintro e w75 ⟨rfl, hb⟩
         refine ⟨_, rfl, ?_⟩
         replace HO507 := am_ (Kd.V_below (zq1 HO507.out) hb); replace HO512 := am_ (Kd.V_below (zq1 HO512.out) hb); replace HO517 := am_ (Kd.V_below (zq1 HO517.out) hb); replace HO523 := am_ (Kd.V_below (zq1 HO523.out) hb); replace BK508 := am_ (blk_below (g := gb508) (o := .cells #[.bool t504, .slice Ao26 t505.length co26] 25 (0, 0)) (zq9 BK508.out) hb); replace BK513 := am_ (blk_below (g := gb513) (o := .cells #[.bool t509, .slice Ao31 t510.length co31] 25 (0, 0)) (zq9 BK513.out) hb); replace BK519 := am_ (blk_below (g := gb519) (o := .cells #[.bool t514, .slice Ao38 t515.length co38] 33 (0, 0)) (zq9 BK519.out) hb); replace BK525 := am_ (blk_below (g := gb525) (o := .cells #[.bool t520, .slice Ao46 t521.length co46] 33 (0, 0)) (zq9 BK525.out) hb); replace BK531 := am_ (blk_below (g := gb531) (o := .cells #[.bool t526, .slice Ao55 t527.length co55] 33 (0, 0)) (zq9 BK531.out) hb); replace BK537 := am_ (blk_below (g := gb537) (o := .cells #[.bool t532, .slice Ao67 t533.length co67] 33 (0, 0)) (zq9 BK537.out) hb); replace HB := am_ (below_step zq115 hb); (try clear hb)
         refine hK.out _ _ ⟨(blk_cell BK531.out 0).trans rfl, (blk_cell BK531.out 1).trans rfl, (blk_cell BK508.out 0).trans rfl, (blk_cell BK508.out 1).trans rfl, (blk_cell BK513.out 0).trans rfl, (blk_cell BK513.out 1).trans rfl, (blk_cell BK537.out 0).trans rfl, (blk_cell BK537.out 1).trans rfl, (blk_cell BK519.out 0).trans rfl, (blk_cell BK519.out 1).trans rfl, (blk_cell BK525.out 0).trans rfl, (blk_cell BK525.out 1).trans rfl⟩ (fun hHeld => ?_)
         clear hK K
         refine norm_ (a' := ?_) ?_ ?_
         rotate_left
         ·show Act.put _ (some 63) _ = _
          exact za_
         refine pure_ (i := 25) (N := some 64) (v := ?_) (a' := ?_) #[true, true, true, true, true, true, true, true, true, true, true, true, true, true, true, true, true, true, true, true, true, true, true, true, true, true, false, false, false, false, false, false, false, false, false, false, false, false, false, false] rfl rfl (any_of HT_.out (by kernel_rfl)) (fun _ _ _ h => h) (Or.inl ⟨by rfl, ?_⟩) ?_ ?_
         rotate_left
         ·intro w'
          go_simp
          with_reducible rfl
         rotate_left
         ·exact za_
         refine pure_ (i := 26) (N := some 65) (v := ?_) (a' := ?_) #[true, true, true, true, true, true, true, true, true, true, true, true, true, true, true, true, true, true, true, true, true, true, true, true, true, true, true, false, false, false, false, false, false, false, false, false, false, false, false, false] rfl rfl (any_of HT_.out (by kernel_rfl)) (fun _ _ _ h => h) (Or.inl ⟨by rfl, ?_⟩) ?_ ?_
         rotate_left
         ·intro w'
          go_simp
          with_reducible rfl
         rotate_left
         ·exact za_
         refine take_ (i := 27) (N := some 66) (v := ?_) (a' := ?_) #[true, true, true, true, true, true, true, true, true, true, true, true, true, true, true, true, true, true, true, true, true, true, true, true, true, true, true, true, false, false, false, false, false, false, false, false, false, false, false, false] rfl rfl (take_ofW HT_.out HW_.out (by kernel_rfl)) (fun _ _ _ h => h) (Or.inl ⟨by rfl, ?_⟩) hHeld ?_ ?_
         rotate_left
         ·rintro w' ⟨s0, s1, s2, s3, s4, s5, s6, s7, s8, s9, s10, s11⟩
          go_simp
          with_reducible rfl
         rotate_left
         ·exact za_
         refine take_ (i := 28) (N := some 67) (v := ?_) (a' := ?_) #[true, true, true, true, true, true, true, true, true, true, true, true, true, true, true, true, true, true, true, true, true, true, true, true, true, true, true, true, true, false, false, false, false, false, false, false, false, false, false, false] rfl rfl (take_ofW HT_.out HW_.out (by kernel_rfl)) (fun _ _ _ h => h) (Or.inl ⟨by rfl, ?_⟩) hHeld ?_ ?_
         rotate_left
         ·rintro w' ⟨s0, s1, s2, s3, s4, s5, s6, s7, s8, s9, s10, s11⟩
          go_simp
          with_reducible rfl
         rotate_left
         ·exact za_
         refine one_ (i := 29) (N := some 68) #[true, true, true, true, true, true, true, true, true, true, true, true, true, true, true, true, true, true, true, true, true, true, true, true, true, true, true, true, true, true, false, false, false, false, false, false, false, false, false, false] rfl rfl (one_of HT_.out (by kernel_rfl)) (by decide) (fun K hK => ?_)
         refine goes_ Tryz.func18 (by kernel_rfl) rfl #[.agg #[.bool t514, .slice Ao38 t515.length co38], .agg #[.bool t504, .slice Ao26 t505.length co26]] (by rfl) rfl rfl zq6 ?_
         with_reducible refine (worldmintlaw05_equal.calls k t514 _ _ t515 t504 _ _ t505 true _ ?side1 ?side2 ?side3 ?side4 A18.out zq116).mono ?_
         (case side1 => exact (zq31 HO517.out))
         (case side2 => exact (Kd.V_reads' HO517.out).2.1)
         (case side3 => exact (zq31 HO507.out))
         (case side4 => exact (Kd.V_reads' HO507.out).2.1)
         rintro e w76 ⟨rfl, hb⟩
         refine ⟨_, rfl, ?_⟩
         replace HO512 := am_ (Kd.V_below (zq1 HO512.out) hb); replace HO523 := am_ (Kd.V_below (zq1 HO523.out) hb); replace BK508 := am_ (blk_below (g := gb508) (o := .cells #[.bool t504, .slice Ao26 t505.length co26] 25 (0, 0)) (zq9 BK508.out) hb); replace BK513 := am_ (blk_below (g := gb513) (o := .cells #[.bool t509, .slice Ao31 t510.length co31] 25 (0, 0)) (zq9 BK513.out) hb); replace BK519 := am_ (blk_below (g := gb519) (o := .cells #[.bool t514, .slice Ao38 t515.length co38] 33 (0, 0)) (zq9 BK519.out) hb); replace BK525 := am_ (blk_below (g := gb525) (o := .cells #[.bool t520, .slice Ao46 t521.length co46] 33 (0, 0)) (zq9 BK525.out) hb); replace BK531 := am_ (blk_below (g := gb531) (o := .cells #[.bool t526, .slice Ao55 t527.length co55] 33 (0, 0)) (zq9 BK531.out) hb); replace BK537 := am_ (blk_below (g := gb537) (o := .cells #[.bool t532, .slice Ao67 t533.length co67] 33 (0, 0)) (zq9 BK537.out) hb); replace HB := am_ (below_step zq115 hb); (try clear hb)
         refine hK.out _ _ ⟨(blk_cell BK531.out 0).trans rfl, (blk_cell BK531.out 1).trans rfl, (blk_cell BK508.out 0).trans rfl, (blk_cell BK508.out 1).trans rfl, (blk_cell BK513.out 0).trans rfl, (blk_cell BK513.out 1).trans rfl, (blk_cell BK537.out 0).trans rfl, (blk_cell BK537.out 1).trans rfl, (blk_cell BK519.out 0).trans rfl, (blk_cell BK519.out 1).trans rfl, (blk_cell BK525.out 0).trans rfl, (blk_cell BK525.out 1).trans rfl⟩ (fun hHeld => ?_)
         clear hK K
         refine norm_ (a' := ?_) ?_ ?_
         rotate_left
         ·show Act.put _ (some 68) _ = _
          exact za_
         refine pure_ (i := 30) (N := some 69) (v := ?_) (a' := ?_) #[true, true, true, true, true, true, true, true, true, true, true, true, true, true, true, true, true, true, true, true, true, true, true, true, true, true, true, true, true, true, true, false, false, false, false, false, false, false, false, false] rfl rfl (any_of HT_.out (by kernel_rfl)) (fun _ _ _ h => h) (Or.inl ⟨by rfl, ?_⟩) ?_ ?_
         rotate_left
         ·intro w'
          go_simp
          with_reducible rfl
         rotate_left
         ·exact za_
         refine pure_ (i := 31) (N := some 70) (v := ?_) (a' := ?_) #[true, true, true, true, true, true, true, true, true, true, true, true, true, true, true, true, true, true, true, true, true, true, true, true, true, true, true, true, true, true, true, true, false, false, false, false, false, false, false, false] rfl rfl (any_of HT_.out (by kernel_rfl)) (fun _ _ _ h => h) (Or.inl ⟨by rfl, ?_⟩) ?_ ?_
         rotate_left
         ·intro w'
          go_simp
          with_reducible rfl
         rotate_left
         ·exact za_
         refine take_ (i := 32) (N := some 71) (v := ?_) (a' := ?_) #[true, true, true, true, true, true, true, true, true, true, true, true, true, true, true, true, true, true, true, true, true, true, true, true, true, true, true, true, true, true, true, true, true, false, false, false, false, false, false, false] rfl rfl (take_ofW HT_.out HW_.out (by kernel_rfl)) (fun _ _ _ h => h) (Or.inl ⟨by rfl, ?_⟩) hHeld ?_ ?_
         rotate_left
         ·rintro w' ⟨s0, s1, s2, s3, s4, s5, s6, s7, s8, s9, s10, s11⟩
          go_simp
          with_reducible rfl
         rotate_left
         ·exact za_
         refine take_ (i := 33) (N := some 72) (v := ?_) (a' := ?_) #[true, true, true, true, true, true, true, true, true, true, true, true, true, true, true, true, true, true, true, true, true, true, true, true, true, true, true, true, true, true, true, true, true, true, false, false, false, false, false, false] rfl rfl (take_ofW HT_.out HW_.out (by kernel_rfl)) (fun _ _ _ h => h) (Or.inl ⟨by rfl, ?_⟩) hHeld ?_ ?_
         rotate_left
         ·rintro w' ⟨s0, s1, s2, s3, s4, s5, s6, s7, s8, s9, s10, s11⟩
          go_simp
          with_reducible rfl
         rotate_left
         ·exact za_
         refine one_ (i := 34) (N := some 73) #[true, true, true, true, true, true, true, true, true, true, true, true, true, true, true, true, true, true, true, true, true, true, true, true, true, true, true, true, true, true, true, true, true, true, true, false, false, false, false, false] rfl rfl (one_of HT_.out (by kernel_rfl)) (by decide) (fun K hK => ?_)
         refine goes_ Tryz.func18 (by kernel_rfl) rfl #[.agg #[.bool t520, .slice Ao46 t521.length co46], .agg #[.bool t509, .slice Ao31 t510.length co31]] (by rfl) rfl rfl zq6 ?_
         with_reducible refine (worldmintlaw05_equal.calls k t520 _ _ t521 t509 _ _ t510 true _ ?side1 ?side2 ?side3 ?side4 A20.out zq116).mono ?_
         (case side1 => exact (zq31 HO523.out))
         (case side2 => exact (Kd.V_reads' HO523.out).2.1)
         (case side3 => exact (zq31 HO512.out))
         (case side4 => exact (Kd.V_reads' HO512.out).2.1)
         rintro e w77 ⟨rfl, hb⟩
         refine ⟨_, rfl, ?_⟩
         replace BK508 := am_ (blk_below (g := gb508) (o := .cells #[.bool t504, .slice Ao26 t505.length co26] 25 (0, 0)) (zq9 BK508.out) hb); replace BK513 := am_ (blk_below (g := gb513) (o := .cells #[.bool t509, .slice Ao31 t510.length co31] 25 (0, 0)) (zq9 BK513.out) hb); replace BK519 := am_ (blk_below (g := gb519) (o := .cells #[.bool t514, .slice Ao38 t515.length co38] 33 (0, 0)) (zq9 BK519.out) hb); replace BK525 := am_ (blk_below (g := gb525) (o := .cells #[.bool t520, .slice Ao46 t521.length co46] 33 (0, 0)) (zq9 BK525.out) hb); replace BK531 := am_ (blk_below (g := gb531) (o := .cells #[.bool t526, .slice Ao55 t527.length co55] 33 (0, 0)) (zq9 BK531.out) hb); replace BK537 := am_ (blk_below (g := gb537) (o := .cells #[.bool t532, .slice Ao67 t533.length co67] 33 (0, 0)) (zq9 BK537.out) hb); replace HB := am_ (below_step zq115 hb); (try clear hb)
         refine hK.out _ _ ⟨(blk_cell BK531.out 0).trans rfl, (blk_cell BK531.out 1).trans rfl, (blk_cell BK508.out 0).trans rfl, (blk_cell BK508.out 1).trans rfl, (blk_cell BK513.out 0).trans rfl, (blk_cell BK513.out 1).trans rfl, (blk_cell BK537.out 0).trans rfl, (blk_cell BK537.out 1).trans rfl, (blk_cell BK519.out 0).trans rfl, (blk_cell BK519.out 1).trans rfl, (blk_cell BK525.out 0).trans rfl, (blk_cell BK525.out 1).trans rfl⟩ (fun hHeld => ?_)
         clear hK K
         refine norm_ (a' := ?_) ?_ ?_
         rotate_left
         ·show Act.put _ (some 73) _ = _
          exact za_
         refine pure_ (i := 35) (N := some 74) (v := ?_) (a' := ?_) #[true, true, true, true, true, true, true, true, true, true, true, true, true, true, true, true, true, true, true, true, true, true, true, true, true, true, true, true, true, true, true, true, true, true, true, true, false, false, false, false] rfl rfl (any_of HT_.out (by kernel_rfl)) (fun _ _ _ h => h) (Or.inl ⟨by rfl, ?_⟩) ?_ ?_
         rotate_left
         ·intro w'
          go_simp
          with_reducible rfl
         rotate_left
         ·exact za_
         refine pure_ (i := 36) (N := some 75) (v := ?_) (a' := ?_) #[true, true, true, true, true, true, true, true, true, true, true, true, true, true, true, true, true, true, true, true, true, true, true, true, true, true, true, true, true, true, true, true, true, true, true, true, true, false, false, false] rfl rfl (any_of HT_.out (by kernel_rfl)) (fun _ _ _ h => h) (Or.inl ⟨by rfl, ?_⟩) ?_ ?_
         rotate_left
         ·intro w'
          go_simp
          with_reducible rfl
         rotate_left
         ·exact za_
         refine one_ (i := 37) (N := some 76) #[true, true, true, true, true, true, true, true, true, true, true, true, true, true, true, true, true, true, true, true, true, true, true, true, true, true, true, true, true, true, true, true, true, true, true, true, true, true, false, false] rfl rfl (one_of HT_.out (by kernel_rfl)) (by decide) (fun K hK => ?_)
         refine goes_ Tryz.func20 (by kernel_rfl) rfl #[] (by rfl) rfl rfl zq6 ?_
         with_reducible refine (worldmintlaw05_lives.calls k  t550 _ A22.out zq116 (by first | exact hT_ | rfl)).mono ?_
         rintro e w78 ⟨rfl, hb⟩
         refine ⟨_, rfl, ?_⟩
         replace BK508 := am_ (blk_below (g := gb508) (o := .cells #[.bool t504, .slice Ao26 t505.length co26] 25 (0, 0)) (zq9 BK508.out) hb); replace BK513 := am_ (blk_below (g := gb513) (o := .cells #[.bool t509, .slice Ao31 t510.length co31] 25 (0, 0)) (zq9 BK513.out) hb); replace BK519 := am_ (blk_below (g := gb519) (o := .cells #[.bool t514, .slice Ao38 t515.length co38] 33 (0, 0)) (zq9 BK519.out) hb); replace BK525 := am_ (blk_below (g := gb525) (o := .cells #[.bool t520, .slice Ao46 t521.length co46] 33 (0, 0)) (zq9 BK525.out) hb); replace BK531 := am_ (blk_below (g := gb531) (o := .cells #[.bool t526, .slice Ao55 t527.length co55] 33 (0, 0)) (zq9 BK531.out) hb); replace BK537 := am_ (blk_below (g := gb537) (o := .cells #[.bool t532, .slice Ao67 t533.length co67] 33 (0, 0)) (zq9 BK537.out) hb); replace HB := am_ (below_step zq115 hb); (try clear hb)
         refine hK.out _ _ ⟨(blk_cell BK531.out 0).trans rfl, (blk_cell BK531.out 1).trans rfl, (blk_cell BK508.out 0).trans rfl, (blk_cell BK508.out 1).trans rfl, (blk_cell BK513.out 0).trans rfl, (blk_cell BK513.out 1).trans rfl, (blk_cell BK537.out 0).trans rfl, (blk_cell BK537.out 1).trans rfl, (blk_cell BK519.out 0).trans rfl, (blk_cell BK519.out 1).trans rfl, (blk_cell BK525.out 0).trans rfl, (blk_cell BK525.out 1).trans rfl⟩ (fun hHeld => ?_)
         clear hK K
         refine norm_ (a' := ?_) ?_ ?_
         rotate_left
         ·show Act.put _ (some 76) _ = _
          exact za_
         refine pure_ (i := 38) (N := some 77) (v := ?_) (a' := ?_) #[true, true, true, true, true, true, true, true, true, true, true, true, true, true, true, true, true, true, true, true, true, true, true, true, true, true, true, true, true, true, true, true, true, true, true, true, true, true, true, false] rfl rfl (any_of HT_.out (by kernel_rfl)) (fun _ _ _ h => h) (Or.inl ⟨by rfl, ?_⟩) ?_ ?_
         rotate_left
         ·intro w'
          go_simp
          with_reducible rfl
         rotate_left
         ·exact za_
         refine pure_ (i := 39) (N := some 2) (v := ?_) (a' := ?_) #[true, true, true, true, true, true, true, true, true, true, true, true, true, true, true, true, true, true, true, true, true, true, true, true, true, true, true, true, true, true, true, true, true, true, true, true, true, true, true, true] rfl rfl (any_of HT_.out (by kernel_rfl)) (fun _ _ _ h => h) (Or.inl ⟨by rfl, ?_⟩) ?_ ?_
         rotate_left
         ·intro w'
          go_simp
          with_reducible rfl
         rotate_left
         ·exact za_
         refine done_ (done_of HT_.out (by kernel_rfl)) ?_
         try go_wp2
         go_ret
         exact ⟨by first | rfl | (simp [errW_none, errW_some] <;> rfl) | (simp [*, errW_none, errW_some] <;> rfl), by repeat (first | (with_reducible first | exact HB.out | apply below_alloc | apply pw_below_drewN | apply below_drew1 | refine below_set ?_ GE508.out | refine below_set ?_ GE513.out | refine below_set ?_ GE519.out | refine below_set ?_ GE525.out | refine below_set ?_ GE531.out | refine below_set ?_ GE537.out) | exact HB.out)⟩
        ·replace c21 := Bool.eq_false_iff.mpr c21
         subst c21
         have H1 : (some false) = some r := by rw [if_neg (show ¬ (false = true) by decide)] at H; exact H
         clear H
         have H := H1
         clear H1
         subst hT_
         cases H
       ·replace c19 := Bool.eq_false_iff.mpr c19
        subst c19
        have H1 : (some false) = some r := by rw [if_neg (show ¬ (false = true) by decide)] at H; exact H
        clear H
        have H := H1
        clear H1
        subst hT_
        cases H
      ·replace c17 := Bool.eq_false_iff.mpr c17
       subst c17
       have H1 : (some false) = some r := by rw [if_neg (show ¬ (false = true) by decide)] at H; exact H
       clear H
       have H := H1
       clear H1
       subst hT_
       cases H
     ·replace c14 := Bool.eq_false_iff.mpr c14
      subst c14
      have H1 : (some false) = some r := by rw [if_neg (show ¬ (false = true) by decide)] at H; exact H
      clear H
      have H := H1
      clear H1
      subst hT_
      cases H
    ·rw [if_neg c11] at H
     have c11b0 : (t536 == 0) = false := beq_eq_false_iff_ne.mpr c11
     have c11b1 : (t536 != 0) = true := bne_iff_ne.mpr c11
     subst hT_
     cases H
   ·rw [if_neg c10] at H
    have c10b0 : (t530 == 0) = false := beq_eq_false_iff_ne.mpr c10
    have c10b1 : (t530 != 0) = true := bne_iff_ne.mpr c10
    subst hT_
    cases H
  ·replace c9 := Bool.eq_false_iff.mpr c9
   subst c9
   have H1 : (some false) = some r := by rw [if_neg (show ¬ (false = true) by decide)] at H; exact H
   clear H
   have H := H1
   clear H1
   subst hT_
   cases H
 ·replace c8 := Bool.eq_false_iff.mpr c8
  subst c8
  have H1 : (some false) = some r := by rw [if_neg (show ¬ (false = true) by decide)] at H; exact H
  clear H
  have H := H1
  clear H1
  subst hT_
  cases H

/-- THE ONE PURE STATEMENT of worldmintlaw05_WideSums: yours. -/
def worldmintlaw05_WideSums.Pure : Prop := ∀ (l0 : List Int), l0.length ≤ maxLen → l0.length * 8 ≤ 140737488351232 → (∀ x ∈ l0, (Lit.int .i64 x).wf = true) → ∃ k, worldmintlaw05_WideSums.f k l0 = some true
theorem worldmintlaw05_WideSums.walk (P : worldmintlaw05_WideSums.Pure) (a0 : Option Addr) (len0 cap0 : Nat) (z0 : List Int) (w : World) (w0 : (a0 = none ∧ len0 = 0 ∧ cap0 = 0 ∧ z0 = []) ∨ ∃ x, a0 = some x ∧ len0 ≤ cap0 ∧ cap0 ≤ maxLen ∧ z0.length = cap0 ∧ (∀ i, i < z0.length → w.cell? (x.add i) = some (.int .i64 (z0.getD i 0))) ∧ ∀ n ∈ z0, (Lit.int .i64 n).wf = true) (y0 : len0 * 8 ≤ 140737488351232) (hG : GOK w) :
  Calls Tryz.prog 7 #[.slice a0 len0 cap0] w fun e w' => e = .returned (.bool true) ∧ Below w.heap.size w w' := by
 obtain ⟨l0, rfl, hr0, hm0, hw0, hc0⟩ := ReadsInt.ofRowC w0
 obtain ⟨k, h⟩ := P l0 hm0 y0 hw0
 refine (worldmintlaw05_WideSums.calls k _ _ l0 true w (Kd.C_of_reads (d := (0 : Int)) (h1 := fun _ => rfl) hr0) hc0 h hG rfl).mono ?_
 rintro e w' ⟨rfl, hd⟩
 exact ⟨rfl, hd⟩

end Go.Proofs.YtlceokefdihdkaaGreatDoor.X
