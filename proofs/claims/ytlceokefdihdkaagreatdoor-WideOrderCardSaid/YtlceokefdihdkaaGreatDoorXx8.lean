-- Written by a program of this session (xprint) out of the translation: Lean checks it.
import Derived.Test.YtlceokefdihdkaaGreatDoorXx0
import Derived.Test.YtlceokefdihdkaaGreatDoorXx1
import Derived.Test.YtlceokefdihdkaaGreatDoorXx3
import Derived.Test.YtlceokefdihdkaaGreatDoorXx5
import Derived.Test.YtlceokefdihdkaaGreatDoorXx6
import Derived.Test.YtlceokefdihdkaaGreatDoorXx7
import Derived.Test.YtlceokefdihdkaaGreatDoorExs
namespace Go.Proofs.YtlceokefdihdkaaGreatDoor.X
open Go.RowKit Go.Proofs.YtlceokefdihdkaaGreatDoorW.PrintWords Go.Proofs.YtlceokefdihdkaaGreatDoorW.PrintLast Go.Proofs.YtlceokefdihdkaaGreatDoorW.PrintMore
attribute [local go_sem] max2_int min2_int max_two min_two max_three min_three max_four min_four   -- for this text's walks alone
set_option linter.unusedVariables false
set_option linter.unusedSimpArgs false

/-! ### worldmintlaw05_lives: function 20 -/
def worldmintlaw05_lives.f (k : Nat)  : Option (Bool) := (wide_From.f k (-7)).bind fun bt359 => ((wide_From.f k 2).bind fun bt363 => ((wide_Div.f k bt359.1 bt359.2 bt363.1 bt363.2).bind fun bt367 => ((wide_From.f k 7).bind fun bt378 => ((wide_From.f k (-2)).bind fun bt382 => ((wide_Div.f k bt378.1 bt378.2 bt382.1 bt382.2).bind fun bt386 => ((wide_From.f k 4294967296).bind fun bt397 => ((wide_From.f k 4294967296).bind fun bt401 => ((wide_Mul.f k bt397.1 bt397.2 bt401.1 bt401.2).bind fun bt405 => ((wide_Int_Small.f k bt405.1 bt405.2.1).bind fun bt411 => ((wide_Parse.f k (⟨#[45, 48]⟩ : ByteArray)).bind fun bt413 => ((wide_Parse.f k (⟨#[48, 49]⟩ : ByteArray)).bind fun bt419 => (if bt367.2.2.2.2 = 0 then (if bt386.2.2.2.2 = 0 then (if bt405.2.2 = 0 then ((wide_Int_String.f bt367.1 bt367.2.1).bind fun t425 => (if t425.toList = ([45, 52] : List UInt8) then ((wide_Int_String.f bt367.2.2.1 bt367.2.2.2.1).bind fun t426 => (if t426.toList = ([49] : List UInt8) then ((wide_Int_String.f bt386.1 bt386.2.1).bind fun t427 => (if t427.toList = ([45, 51] : List UInt8) then ((wide_Int_String.f bt386.2.2.1 bt386.2.2.2.1).bind fun t428 => (if t428.toList = ([49] : List UInt8) then ((wide_Int_String.f bt405.1 bt405.2.1).bind fun t429 => (if t429.toList = ([49, 56, 52, 52, 54, 55, 52, 52, 48, 55, 51, 55, 48, 57, 53, 53, 49, 54, 49, 54] : List UInt8) then (if bt411.2 = true then (some false) else (if bt413.2.2 = 2 then (some (bt419.2.2 == 2)) else (some false))) else (some false))) else (some false))) else (some false))) else (some false))) else (some false))) else (some false)) else (some false)) else (some false)))))))))))))
theorem worldmintlaw05_lives.mono : ∀ k, LeO (worldmintlaw05_lives.f k ) (worldmintlaw05_lives.f (k + 1) ) := by
 intro  k
 unfold worldmintlaw05_lives.f
 repeat' first
   | (with_reducible exact wide_Div.mono _ _ _ _ _)
   | (with_reducible exact wide_From.mono _ _)
   | (with_reducible exact wide_Int_Small.mono _ _ _)
   | (with_reducible exact wide_Mul.mono _ _ _ _ _)
   | (with_reducible exact wide_Parse.mono _ _)
   | (with_reducible exact LeO.refl _)
   | (with_reducible exact LeO.none _)
   | (with_reducible refine LeO.ite ?_ ?_)
   | (with_reducible refine LeO.bind ?_ (fun _ => ?_))
   | exact wide_Div.mono _ _ _ _ _
   | exact wide_From.mono _ _
   | exact wide_Int_Small.mono _ _ _
   | exact wide_Mul.mono _ _ _ _ _
   | exact wide_Parse.mono _ _
   | exact LeO.none _
   | refine LeO.ite ?_ ?_
   | refine LeO.bind ?_ (fun _ => ?_)
set_option maxHeartbeats 8000000 in
set_option maxRecDepth 100000 in
theorem worldmintlaw05_lives.calls (k : Nat)  (r : Bool) (w : World) (h : worldmintlaw05_lives.f k  = some r) (hG : GOK w) (hT_ : r = true) :
  Calls Tryz.prog 20 #[] w fun e w' => e = .returned (.bool r) ∧ Below w.heap.size w w' := by
 have hu33 := Tryz.underlying33
 have HB := am_ (Below.refl w.heap.size w)
 have H : ((wide_From.f k (-7)).bind fun bt359 => ((wide_From.f k 2).bind fun bt363 => ((wide_Div.f k bt359.1 bt359.2 bt363.1 bt363.2).bind fun bt367 => ((wide_From.f k 7).bind fun bt378 => ((wide_From.f k (-2)).bind fun bt382 => ((wide_Div.f k bt378.1 bt378.2 bt382.1 bt382.2).bind fun bt386 => ((wide_From.f k 4294967296).bind fun bt397 => ((wide_From.f k 4294967296).bind fun bt401 => ((wide_Mul.f k bt397.1 bt397.2 bt401.1 bt401.2).bind fun bt405 => ((wide_Int_Small.f k bt405.1 bt405.2.1).bind fun bt411 => ((wide_Parse.f k (⟨#[45, 48]⟩ : ByteArray)).bind fun bt413 => ((wide_Parse.f k (⟨#[48, 49]⟩ : ByteArray)).bind fun bt419 => (if bt367.2.2.2.2 = 0 then (if bt386.2.2.2.2 = 0 then (if bt405.2.2 = 0 then ((wide_Int_String.f bt367.1 bt367.2.1).bind fun t425 => (if t425.toList = ([45, 52] : List UInt8) then ((wide_Int_String.f bt367.2.2.1 bt367.2.2.2.1).bind fun t426 => (if t426.toList = ([49] : List UInt8) then ((wide_Int_String.f bt386.1 bt386.2.1).bind fun t427 => (if t427.toList = ([45, 51] : List UInt8) then ((wide_Int_String.f bt386.2.2.1 bt386.2.2.2.1).bind fun t428 => (if t428.toList = ([49] : List UInt8) then ((wide_Int_String.f bt405.1 bt405.2.1).bind fun t429 => (if t429.toList = ([49, 56, 52, 52, 54, 55, 52, 52, 48, 55, 51, 55, 48, 57, 53, 53, 49, 54, 49, 54] : List UInt8) then (if bt411.2 = true then (some false) else (if bt413.2.2 = 2 then (some (bt419.2.2 == 2)) else (some false))) else (some false))) else (some false))) else (some false))) else (some false))) else (some false))) else (some false)) else (some false)) else (some false)))))))))))))) = some r := h
 clear h
 replace H := Option.bind_eq_some_iff.mp H
 obtain ⟨⟨t359, t360⟩, A10, H⟩ := H
 replace H : ((wide_From.f k 2).bind fun bt363 => ((wide_Div.f k t359 t360 bt363.1 bt363.2).bind fun bt367 => ((wide_From.f k 7).bind fun bt378 => ((wide_From.f k (-2)).bind fun bt382 => ((wide_Div.f k bt378.1 bt378.2 bt382.1 bt382.2).bind fun bt386 => ((wide_From.f k 4294967296).bind fun bt397 => ((wide_From.f k 4294967296).bind fun bt401 => ((wide_Mul.f k bt397.1 bt397.2 bt401.1 bt401.2).bind fun bt405 => ((wide_Int_Small.f k bt405.1 bt405.2.1).bind fun bt411 => ((wide_Parse.f k (⟨#[45, 48]⟩ : ByteArray)).bind fun bt413 => ((wide_Parse.f k (⟨#[48, 49]⟩ : ByteArray)).bind fun bt419 => (if bt367.2.2.2.2 = 0 then (if bt386.2.2.2.2 = 0 then (if bt405.2.2 = 0 then ((wide_Int_String.f bt367.1 bt367.2.1).bind fun t425 => (if t425.toList = ([45, 52] : List UInt8) then ((wide_Int_String.f bt367.2.2.1 bt367.2.2.2.1).bind fun t426 => (if t426.toList = ([49] : List UInt8) then ((wide_Int_String.f bt386.1 bt386.2.1).bind fun t427 => (if t427.toList = ([45, 51] : List UInt8) then ((wide_Int_String.f bt386.2.2.1 bt386.2.2.2.1).bind fun t428 => (if t428.toList = ([49] : List UInt8) then ((wide_Int_String.f bt405.1 bt405.2.1).bind fun t429 => (if t429.toList = ([49, 56, 52, 52, 54, 55, 52, 52, 48, 55, 51, 55, 48, 57, 53, 53, 49, 54, 49, 54] : List UInt8) then (if bt411.2 = true then (some false) else (if bt413.2.2 = 2 then (some (bt419.2.2 == 2)) else (some false))) else (some false))) else (some false))) else (some false))) else (some false))) else (some false))) else (some false)) else (some false)) else (some false))))))))))))) = some r := H
 have A1 := am_ A10
 clear A10
 replace H := Option.bind_eq_some_iff.mp H
 obtain ⟨⟨t363, t364⟩, A20, H⟩ := H
 replace H : ((wide_Div.f k t359 t360 t363 t364).bind fun bt367 => ((wide_From.f k 7).bind fun bt378 => ((wide_From.f k (-2)).bind fun bt382 => ((wide_Div.f k bt378.1 bt378.2 bt382.1 bt382.2).bind fun bt386 => ((wide_From.f k 4294967296).bind fun bt397 => ((wide_From.f k 4294967296).bind fun bt401 => ((wide_Mul.f k bt397.1 bt397.2 bt401.1 bt401.2).bind fun bt405 => ((wide_Int_Small.f k bt405.1 bt405.2.1).bind fun bt411 => ((wide_Parse.f k (⟨#[45, 48]⟩ : ByteArray)).bind fun bt413 => ((wide_Parse.f k (⟨#[48, 49]⟩ : ByteArray)).bind fun bt419 => (if bt367.2.2.2.2 = 0 then (if bt386.2.2.2.2 = 0 then (if bt405.2.2 = 0 then ((wide_Int_String.f bt367.1 bt367.2.1).bind fun t425 => (if t425.toList = ([45, 52] : List UInt8) then ((wide_Int_String.f bt367.2.2.1 bt367.2.2.2.1).bind fun t426 => (if t426.toList = ([49] : List UInt8) then ((wide_Int_String.f bt386.1 bt386.2.1).bind fun t427 => (if t427.toList = ([45, 51] : List UInt8) then ((wide_Int_String.f bt386.2.2.1 bt386.2.2.2.1).bind fun t428 => (if t428.toList = ([49] : List UInt8) then ((wide_Int_String.f bt405.1 bt405.2.1).bind fun t429 => (if t429.toList = ([49, 56, 52, 52, 54, 55, 52, 52, 48, 55, 51, 55, 48, 57, 53, 53, 49, 54, 49, 54] : List UInt8) then (if bt411.2 = true then (some false) else (if bt413.2.2 = 2 then (some (bt419.2.2 == 2)) else (some false))) else (some false))) else (some false))) else (some false))) else (some false))) else (some false))) else (some false)) else (some false)) else (some false)))))))))))) = some r := H
 have A2 := am_ A20
 clear A20
 replace H := Option.bind_eq_some_iff.mp H
 obtain ⟨⟨t367, t368, t371, t372, t375⟩, A30, H⟩ := H
 replace H : ((wide_From.f k 7).bind fun bt378 => ((wide_From.f k (-2)).bind fun bt382 => ((wide_Div.f k bt378.1 bt378.2 bt382.1 bt382.2).bind fun bt386 => ((wide_From.f k 4294967296).bind fun bt397 => ((wide_From.f k 4294967296).bind fun bt401 => ((wide_Mul.f k bt397.1 bt397.2 bt401.1 bt401.2).bind fun bt405 => ((wide_Int_Small.f k bt405.1 bt405.2.1).bind fun bt411 => ((wide_Parse.f k (⟨#[45, 48]⟩ : ByteArray)).bind fun bt413 => ((wide_Parse.f k (⟨#[48, 49]⟩ : ByteArray)).bind fun bt419 => (if t375 = 0 then (if bt386.2.2.2.2 = 0 then (if bt405.2.2 = 0 then ((wide_Int_String.f t367 t368).bind fun t425 => (if t425.toList = ([45, 52] : List UInt8) then ((wide_Int_String.f t371 t372).bind fun t426 => (if t426.toList = ([49] : List UInt8) then ((wide_Int_String.f bt386.1 bt386.2.1).bind fun t427 => (if t427.toList = ([45, 51] : List UInt8) then ((wide_Int_String.f bt386.2.2.1 bt386.2.2.2.1).bind fun t428 => (if t428.toList = ([49] : List UInt8) then ((wide_Int_String.f bt405.1 bt405.2.1).bind fun t429 => (if t429.toList = ([49, 56, 52, 52, 54, 55, 52, 52, 48, 55, 51, 55, 48, 57, 53, 53, 49, 54, 49, 54] : List UInt8) then (if bt411.2 = true then (some false) else (if bt413.2.2 = 2 then (some (bt419.2.2 == 2)) else (some false))) else (some false))) else (some false))) else (some false))) else (some false))) else (some false))) else (some false)) else (some false)) else (some false))))))))))) = some r := H
 have A3 := am_ A30
 clear A30
 replace H := Option.bind_eq_some_iff.mp H
 obtain ⟨⟨t378, t379⟩, A40, H⟩ := H
 replace H : ((wide_From.f k (-2)).bind fun bt382 => ((wide_Div.f k t378 t379 bt382.1 bt382.2).bind fun bt386 => ((wide_From.f k 4294967296).bind fun bt397 => ((wide_From.f k 4294967296).bind fun bt401 => ((wide_Mul.f k bt397.1 bt397.2 bt401.1 bt401.2).bind fun bt405 => ((wide_Int_Small.f k bt405.1 bt405.2.1).bind fun bt411 => ((wide_Parse.f k (⟨#[45, 48]⟩ : ByteArray)).bind fun bt413 => ((wide_Parse.f k (⟨#[48, 49]⟩ : ByteArray)).bind fun bt419 => (if t375 = 0 then (if bt386.2.2.2.2 = 0 then (if bt405.2.2 = 0 then ((wide_Int_String.f t367 t368).bind fun t425 => (if t425.toList = ([45, 52] : List UInt8) then ((wide_Int_String.f t371 t372).bind fun t426 => (if t426.toList = ([49] : List UInt8) then ((wide_Int_String.f bt386.1 bt386.2.1).bind fun t427 => (if t427.toList = ([45, 51] : List UInt8) then ((wide_Int_String.f bt386.2.2.1 bt386.2.2.2.1).bind fun t428 => (if t428.toList = ([49] : List UInt8) then ((wide_Int_String.f bt405.1 bt405.2.1).bind fun t429 => (if t429.toList = ([49, 56, 52, 52, 54, 55, 52, 52, 48, 55, 51, 55, 48, 57, 53, 53, 49, 54, 49, 54] : List UInt8) then (if bt411.2 = true then (some false) else (if bt413.2.2 = 2 then (some (bt419.2.2 == 2)) else (some false))) else (some false))) else (some false))) else (some false))) else (some false))) else (some false))) else (some false)) else (some false)) else (some false)))))))))) = some r := H
 have A4 := am_ A40
 clear A40
 replace H := Option.bind_eq_some_iff.mp H
 obtain ⟨⟨t382, t383⟩, A50, H⟩ := H
 replace H : ((wide_Div.f k t378 t379 t382 t383).bind fun bt386 => ((wide_From.f k 4294967296).bind fun bt397 => ((wide_From.f k 4294967296).bind fun bt401 => ((wide_Mul.f k bt397.1 bt397.2 bt401.1 bt401.2).bind fun bt405 => ((wide_Int_Small.f k bt405.1 bt405.2.1).bind fun bt411 => ((wide_Parse.f k (⟨#[45, 48]⟩ : ByteArray)).bind fun bt413 => ((wide_Parse.f k (⟨#[48, 49]⟩ : ByteArray)).bind fun bt419 => (if t375 = 0 then (if bt386.2.2.2.2 = 0 then (if bt405.2.2 = 0 then ((wide_Int_String.f t367 t368).bind fun t425 => (if t425.toList = ([45, 52] : List UInt8) then ((wide_Int_String.f t371 t372).bind fun t426 => (if t426.toList = ([49] : List UInt8) then ((wide_Int_String.f bt386.1 bt386.2.1).bind fun t427 => (if t427.toList = ([45, 51] : List UInt8) then ((wide_Int_String.f bt386.2.2.1 bt386.2.2.2.1).bind fun t428 => (if t428.toList = ([49] : List UInt8) then ((wide_Int_String.f bt405.1 bt405.2.1).bind fun t429 => (if t429.toList = ([49, 56, 52, 52, 54, 55, 52, 52, 48, 55, 51, 55, 48, 57, 53, 53, 49, 54, 49, 54] : List UInt8) then (if bt411.2 = true then (some false) else (if bt413.2.2 = 2 then (some (bt419.2.2 == 2)) else (some false))) else (some false))) else (some false))) else (some false))) else (some false))) else (some false))) else (some false)) else (some false)) else (some false))))))))) = some r := H
 have A5 := am_ A50
 clear A50
 replace H := Option.bind_eq_some_iff.mp H
 obtain ⟨⟨t386, t387, t390, t391, t394⟩, A60, H⟩ := H
 replace H : ((wide_From.f k 4294967296).bind fun bt397 => ((wide_From.f k 4294967296).bind fun bt401 => ((wide_Mul.f k bt397.1 bt397.2 bt401.1 bt401.2).bind fun bt405 => ((wide_Int_Small.f k bt405.1 bt405.2.1).bind fun bt411 => ((wide_Parse.f k (⟨#[45, 48]⟩ : ByteArray)).bind fun bt413 => ((wide_Parse.f k (⟨#[48, 49]⟩ : ByteArray)).bind fun bt419 => (if t375 = 0 then (if t394 = 0 then (if bt405.2.2 = 0 then ((wide_Int_String.f t367 t368).bind fun t425 => (if t425.toList = ([45, 52] : List UInt8) then ((wide_Int_String.f t371 t372).bind fun t426 => (if t426.toList = ([49] : List UInt8) then ((wide_Int_String.f t386 t387).bind fun t427 => (if t427.toList = ([45, 51] : List UInt8) then ((wide_Int_String.f t390 t391).bind fun t428 => (if t428.toList = ([49] : List UInt8) then ((wide_Int_String.f bt405.1 bt405.2.1).bind fun t429 => (if t429.toList = ([49, 56, 52, 52, 54, 55, 52, 52, 48, 55, 51, 55, 48, 57, 53, 53, 49, 54, 49, 54] : List UInt8) then (if bt411.2 = true then (some false) else (if bt413.2.2 = 2 then (some (bt419.2.2 == 2)) else (some false))) else (some false))) else (some false))) else (some false))) else (some false))) else (some false))) else (some false)) else (some false)) else (some false)))))))) = some r := H
 have A6 := am_ A60
 clear A60
 replace H := Option.bind_eq_some_iff.mp H
 obtain ⟨⟨t397, t398⟩, A70, H⟩ := H
 replace H : ((wide_From.f k 4294967296).bind fun bt401 => ((wide_Mul.f k t397 t398 bt401.1 bt401.2).bind fun bt405 => ((wide_Int_Small.f k bt405.1 bt405.2.1).bind fun bt411 => ((wide_Parse.f k (⟨#[45, 48]⟩ : ByteArray)).bind fun bt413 => ((wide_Parse.f k (⟨#[48, 49]⟩ : ByteArray)).bind fun bt419 => (if t375 = 0 then (if t394 = 0 then (if bt405.2.2 = 0 then ((wide_Int_String.f t367 t368).bind fun t425 => (if t425.toList = ([45, 52] : List UInt8) then ((wide_Int_String.f t371 t372).bind fun t426 => (if t426.toList = ([49] : List UInt8) then ((wide_Int_String.f t386 t387).bind fun t427 => (if t427.toList = ([45, 51] : List UInt8) then ((wide_Int_String.f t390 t391).bind fun t428 => (if t428.toList = ([49] : List UInt8) then ((wide_Int_String.f bt405.1 bt405.2.1).bind fun t429 => (if t429.toList = ([49, 56, 52, 52, 54, 55, 52, 52, 48, 55, 51, 55, 48, 57, 53, 53, 49, 54, 49, 54] : List UInt8) then (if bt411.2 = true then (some false) else (if bt413.2.2 = 2 then (some (bt419.2.2 == 2)) else (some false))) else (some false))) else (some false))) else (some false))) else (some false))) else (some false))) else (some false)) else (some false)) else (some false))))))) = some r := H
 have A7 := am_ A70
 clear A70
 replace H := Option.bind_eq_some_iff.mp H
 obtain ⟨⟨t401, t402⟩, A80, H⟩ := H
 replace H : ((wide_Mul.f k t397 t398 t401 t402).bind fun bt405 => ((wide_Int_Small.f k bt405.1 bt405.2.1).bind fun bt411 => ((wide_Parse.f k (⟨#[45, 48]⟩ : ByteArray)).bind fun bt413 => ((wide_Parse.f k (⟨#[48, 49]⟩ : ByteArray)).bind fun bt419 => (if t375 = 0 then (if t394 = 0 then (if bt405.2.2 = 0 then ((wide_Int_String.f t367 t368).bind fun t425 => (if t425.toList = ([45, 52] : List UInt8) then ((wide_Int_String.f t371 t372).bind fun t426 => (if t426.toList = ([49] : List UInt8) then ((wide_Int_String.f t386 t387).bind fun t427 => (if t427.toList = ([45, 51] : List UInt8) then ((wide_Int_String.f t390 t391).bind fun t428 => (if t428.toList = ([49] : List UInt8) then ((wide_Int_String.f bt405.1 bt405.2.1).bind fun t429 => (if t429.toList = ([49, 56, 52, 52, 54, 55, 52, 52, 48, 55, 51, 55, 48, 57, 53, 53, 49, 54, 49, 54] : List UInt8) then (if bt411.2 = true then (some false) else (if bt413.2.2 = 2 then (some (bt419.2.2 == 2)) else (some false))) else (some false))) else (some false))) else (some false))) else (some false))) else (some false))) else (some false)) else (some false)) else (some false)))))) = some r := H
 have A8 := am_ A80
 clear A80
 replace H := Option.bind_eq_some_iff.mp H
 obtain ⟨⟨t405, t406, t409⟩, A90, H⟩ := H
 replace H : ((wide_Int_Small.f k t405 t406).bind fun bt411 => ((wide_Parse.f k (⟨#[45, 48]⟩ : ByteArray)).bind fun bt413 => ((wide_Parse.f k (⟨#[48, 49]⟩ : ByteArray)).bind fun bt419 => (if t375 = 0 then (if t394 = 0 then (if t409 = 0 then ((wide_Int_String.f t367 t368).bind fun t425 => (if t425.toList = ([45, 52] : List UInt8) then ((wide_Int_String.f t371 t372).bind fun t426 => (if t426.toList = ([49] : List UInt8) then ((wide_Int_String.f t386 t387).bind fun t427 => (if t427.toList = ([45, 51] : List UInt8) then ((wide_Int_String.f t390 t391).bind fun t428 => (if t428.toList = ([49] : List UInt8) then ((wide_Int_String.f t405 t406).bind fun t429 => (if t429.toList = ([49, 56, 52, 52, 54, 55, 52, 52, 48, 55, 51, 55, 48, 57, 53, 53, 49, 54, 49, 54] : List UInt8) then (if bt411.2 = true then (some false) else (if bt413.2.2 = 2 then (some (bt419.2.2 == 2)) else (some false))) else (some false))) else (some false))) else (some false))) else (some false))) else (some false))) else (some false)) else (some false)) else (some false))))) = some r := H
 have A9 := am_ A90
 clear A90
 replace H := Option.bind_eq_some_iff.mp H
 obtain ⟨⟨t411, t412⟩, A100, H⟩ := H
 replace H : ((wide_Parse.f k (⟨#[45, 48]⟩ : ByteArray)).bind fun bt413 => ((wide_Parse.f k (⟨#[48, 49]⟩ : ByteArray)).bind fun bt419 => (if t375 = 0 then (if t394 = 0 then (if t409 = 0 then ((wide_Int_String.f t367 t368).bind fun t425 => (if t425.toList = ([45, 52] : List UInt8) then ((wide_Int_String.f t371 t372).bind fun t426 => (if t426.toList = ([49] : List UInt8) then ((wide_Int_String.f t386 t387).bind fun t427 => (if t427.toList = ([45, 51] : List UInt8) then ((wide_Int_String.f t390 t391).bind fun t428 => (if t428.toList = ([49] : List UInt8) then ((wide_Int_String.f t405 t406).bind fun t429 => (if t429.toList = ([49, 56, 52, 52, 54, 55, 52, 52, 48, 55, 51, 55, 48, 57, 53, 53, 49, 54, 49, 54] : List UInt8) then (if t412 = true then (some false) else (if bt413.2.2 = 2 then (some (bt419.2.2 == 2)) else (some false))) else (some false))) else (some false))) else (some false))) else (some false))) else (some false))) else (some false)) else (some false)) else (some false)))) = some r := H
 have A10 := am_ A100
 clear A100
 replace H := Option.bind_eq_some_iff.mp H
 obtain ⟨⟨t413, t414, t417⟩, A110, H⟩ := H
 replace H : ((wide_Parse.f k (⟨#[48, 49]⟩ : ByteArray)).bind fun bt419 => (if t375 = 0 then (if t394 = 0 then (if t409 = 0 then ((wide_Int_String.f t367 t368).bind fun t425 => (if t425.toList = ([45, 52] : List UInt8) then ((wide_Int_String.f t371 t372).bind fun t426 => (if t426.toList = ([49] : List UInt8) then ((wide_Int_String.f t386 t387).bind fun t427 => (if t427.toList = ([45, 51] : List UInt8) then ((wide_Int_String.f t390 t391).bind fun t428 => (if t428.toList = ([49] : List UInt8) then ((wide_Int_String.f t405 t406).bind fun t429 => (if t429.toList = ([49, 56, 52, 52, 54, 55, 52, 52, 48, 55, 51, 55, 48, 57, 53, 53, 49, 54, 49, 54] : List UInt8) then (if t412 = true then (some false) else (if t417 = 2 then (some (bt419.2.2 == 2)) else (some false))) else (some false))) else (some false))) else (some false))) else (some false))) else (some false))) else (some false)) else (some false)) else (some false))) = some r := H
 have A11 := am_ A110
 clear A110
 replace H := Option.bind_eq_some_iff.mp H
 obtain ⟨⟨t419, t420, t423⟩, A120, H⟩ := H
 replace H : (if t375 = 0 then (if t394 = 0 then (if t409 = 0 then ((wide_Int_String.f t367 t368).bind fun t425 => (if t425.toList = ([45, 52] : List UInt8) then ((wide_Int_String.f t371 t372).bind fun t426 => (if t426.toList = ([49] : List UInt8) then ((wide_Int_String.f t386 t387).bind fun t427 => (if t427.toList = ([45, 51] : List UInt8) then ((wide_Int_String.f t390 t391).bind fun t428 => (if t428.toList = ([49] : List UInt8) then ((wide_Int_String.f t405 t406).bind fun t429 => (if t429.toList = ([49, 56, 52, 52, 54, 55, 52, 52, 48, 55, 51, 55, 48, 57, 53, 53, 49, 54, 49, 54] : List UInt8) then (if t412 = true then (some false) else (if t417 = 2 then (some (t423 == 2)) else (some false))) else (some false))) else (some false))) else (some false))) else (some false))) else (some false))) else (some false)) else (some false)) else (some false)) = some r := H
 have A12 := am_ A120
 clear A120
 by_cases c13 : t375 = 0
 ·rw [if_pos c13] at H
  have c13b0 : (t375 == 0) = true := beq_iff_eq.mpr c13
  have c13b1 : (t375 != 0) = false := bne_eq_false_iff_eq.mpr c13
  clear c13
  by_cases c14 : t394 = 0
  ·rw [if_pos c14] at H
   have c14b0 : (t394 == 0) = true := beq_iff_eq.mpr c14
   have c14b1 : (t394 != 0) = false := bne_eq_false_iff_eq.mpr c14
   clear c14
   by_cases c15 : t409 = 0
   ·rw [if_pos c15] at H
    have c15b0 : (t409 == 0) = true := beq_iff_eq.mpr c15
    have c15b1 : (t409 != 0) = false := bne_eq_false_iff_eq.mpr c15
    clear c15
    replace H := Option.bind_eq_some_iff.mp H
    obtain ⟨t425, A160, H⟩ := H
    replace H : (if t425.toList = ([45, 52] : List UInt8) then ((wide_Int_String.f t371 t372).bind fun t426 => (if t426.toList = ([49] : List UInt8) then ((wide_Int_String.f t386 t387).bind fun t427 => (if t427.toList = ([45, 51] : List UInt8) then ((wide_Int_String.f t390 t391).bind fun t428 => (if t428.toList = ([49] : List UInt8) then ((wide_Int_String.f t405 t406).bind fun t429 => (if t429.toList = ([49, 56, 52, 52, 54, 55, 52, 52, 48, 55, 51, 55, 48, 57, 53, 53, 49, 54, 49, 54] : List UInt8) then (if t412 = true then (some false) else (if t417 = 2 then (some (t423 == 2)) else (some false))) else (some false))) else (some false))) else (some false))) else (some false))) else (some false)) = some r := H
    have A16 := am_ A160
    clear A160
    by_cases c17 : t425.toList = ([45, 52] : List UInt8)
    ·rw [if_pos c17] at H
     have c17b0 : (t425.toList == ([45, 52] : List UInt8)) = true := beq_iff_eq.mpr c17
     have c17b1 : (t425.toList != ([45, 52] : List UInt8)) = false := bne_eq_false_iff_eq.mpr c17
     clear c17
     replace H := Option.bind_eq_some_iff.mp H
     obtain ⟨t426, A180, H⟩ := H
     replace H : (if t426.toList = ([49] : List UInt8) then ((wide_Int_String.f t386 t387).bind fun t427 => (if t427.toList = ([45, 51] : List UInt8) then ((wide_Int_String.f t390 t391).bind fun t428 => (if t428.toList = ([49] : List UInt8) then ((wide_Int_String.f t405 t406).bind fun t429 => (if t429.toList = ([49, 56, 52, 52, 54, 55, 52, 52, 48, 55, 51, 55, 48, 57, 53, 53, 49, 54, 49, 54] : List UInt8) then (if t412 = true then (some false) else (if t417 = 2 then (some (t423 == 2)) else (some false))) else (some false))) else (some false))) else (some false))) else (some false)) = some r := H
     have A18 := am_ A180
     clear A180
     by_cases c19 : t426.toList = ([49] : List UInt8)
     ·rw [if_pos c19] at H
      have c19b0 : (t426.toList == ([49] : List UInt8)) = true := beq_iff_eq.mpr c19
      have c19b1 : (t426.toList != ([49] : List UInt8)) = false := bne_eq_false_iff_eq.mpr c19
      clear c19
      replace H := Option.bind_eq_some_iff.mp H
      obtain ⟨t427, A200, H⟩ := H
      replace H : (if t427.toList = ([45, 51] : List UInt8) then ((wide_Int_String.f t390 t391).bind fun t428 => (if t428.toList = ([49] : List UInt8) then ((wide_Int_String.f t405 t406).bind fun t429 => (if t429.toList = ([49, 56, 52, 52, 54, 55, 52, 52, 48, 55, 51, 55, 48, 57, 53, 53, 49, 54, 49, 54] : List UInt8) then (if t412 = true then (some false) else (if t417 = 2 then (some (t423 == 2)) else (some false))) else (some false))) else (some false))) else (some false)) = some r := H
      have A20 := am_ A200
      clear A200
      by_cases c21 : t427.toList = ([45, 51] : List UInt8)
      ·rw [if_pos c21] at H
       have c21b0 : (t427.toList == ([45, 51] : List UInt8)) = true := beq_iff_eq.mpr c21
       have c21b1 : (t427.toList != ([45, 51] : List UInt8)) = false := bne_eq_false_iff_eq.mpr c21
       clear c21
       replace H := Option.bind_eq_some_iff.mp H
       obtain ⟨t428, A220, H⟩ := H
       replace H : (if t428.toList = ([49] : List UInt8) then ((wide_Int_String.f t405 t406).bind fun t429 => (if t429.toList = ([49, 56, 52, 52, 54, 55, 52, 52, 48, 55, 51, 55, 48, 57, 53, 53, 49, 54, 49, 54] : List UInt8) then (if t412 = true then (some false) else (if t417 = 2 then (some (t423 == 2)) else (some false))) else (some false))) else (some false)) = some r := H
       have A22 := am_ A220
       clear A220
       by_cases c23 : t428.toList = ([49] : List UInt8)
       ·rw [if_pos c23] at H
        have c23b0 : (t428.toList == ([49] : List UInt8)) = true := beq_iff_eq.mpr c23
        have c23b1 : (t428.toList != ([49] : List UInt8)) = false := bne_eq_false_iff_eq.mpr c23
        clear c23
        replace H := Option.bind_eq_some_iff.mp H
        obtain ⟨t429, A240, H⟩ := H
        replace H : (if t429.toList = ([49, 56, 52, 52, 54, 55, 52, 52, 48, 55, 51, 55, 48, 57, 53, 53, 49, 54, 49, 54] : List UInt8) then (if t412 = true then (some false) else (if t417 = 2 then (some (t423 == 2)) else (some false))) else (some false)) = some r := H
        have A24 := am_ A240
        clear A240
        by_cases c25 : t429.toList = ([49, 56, 52, 52, 54, 55, 52, 52, 48, 55, 51, 55, 48, 57, 53, 53, 49, 54, 49, 54] : List UInt8)
        ·rw [if_pos c25] at H
         have c25b0 : (t429.toList == ([49, 56, 52, 52, 54, 55, 52, 52, 48, 55, 51, 55, 48, 57, 53, 53, 49, 54, 49, 54] : List UInt8)) = true := beq_iff_eq.mpr c25
         have c25b1 : (t429.toList != ([49, 56, 52, 52, 54, 55, 52, 52, 48, 55, 51, 55, 48, 57, 53, 53, 49, 54, 49, 54] : List UInt8)) = false := bne_eq_false_iff_eq.mpr c25
         clear c25
         by_cases c26 : t412 = true
         ·subst c26
          have H1 : (some false) = some r := by rw [if_pos rfl] at H; exact H
          clear H
          have H := H1
          clear H1
          subst hT_
          cases H
         ·replace c26 := Bool.eq_false_iff.mpr c26
          subst c26
          have H1 : (if t417 = 2 then (some (t423 == 2)) else (some false)) = some r := by rw [if_neg (show ¬ (false = true) by decide)] at H; exact H
          clear H
          have H := H1
          clear H1
          by_cases c27 : t417 = 2
          ·rw [if_pos c27] at H
           have c27b0 : (t417 == 2) = true := beq_iff_eq.mpr c27
           have c27b1 : (t417 != 2) = false := bne_eq_false_iff_eq.mpr c27
           clear c27
           obtain rfl := Option.some.inj H
           go_enter Tryz.func20, Tryz.ntmps20
           go_wp2_with (first | ((with_reducible refine gate_callee (f := 21) rfl ?_); refine goesL_ (some 16) rfl rfl Tryz.func21 (by kernel_rfl) rfl #[.int .i64 (-7)] rfl zq6 ?_; (with_reducible refine (wide_From.calls k (-7) t359 t360 _ A1.out).mono ?_); rintro e w28 ⟨v361, rfl, ho0, hb⟩; refine ⟨_, rfl, ?_⟩; have HO362 := am_ (Kd.V_lower (Kd.V_mono (ok' := fun k_ => True) ho0 (fun k_ hk_ => trivial)) (below_size zq2)); replace HB := am_ (below_step zq2 hb); (try clear hb); (try clear ho0)) | ((with_reducible refine gate_callee (f := 21) rfl ?_); refine goesL_ (some 17) rfl rfl Tryz.func21 (by kernel_rfl) rfl #[.int .i64 2] rfl zq6 ?_; (with_reducible refine (wide_From.calls k 2 t363 t364 _ A2.out).mono ?_); rintro e w29 ⟨v365, rfl, ho0, hb⟩; refine ⟨_, rfl, ?_⟩; replace HO362 := am_ (Kd.V_below (zq1 HO362.out) hb); have HO366 := am_ (Kd.V_lower (Kd.V_mono (ok' := fun k_ => True) ho0 (fun k_ hk_ => trivial)) (below_size zq2)); replace HB := am_ (below_step zq2 hb); (try clear hb); (try clear ho0); obtain ⟨Ao30, co30, eo30⟩ := Kd.V_slice HO362.out; subst eo30; obtain ⟨Ao31, co31, eo31⟩ := Kd.V_slice HO366.out; subst eo31) | ((with_reducible refine gate_callee (f := 30) rfl ?_); refine goesL_ (some 18) rfl rfl Tryz.func30 (by kernel_rfl) rfl #[.agg #[.bool t359, .slice Ao30 t360.length co30], .agg #[.bool t363, .slice Ao31 t364.length co31]] rfl zq6 ?_; (with_reducible refine (wide_Div.calls k t359 (fun k_ => True) _ _ t360 t363 _ _ t364 t367 t368 t371 t372 t375 _ ?side1 ?side2 ?side3 A3.out).mono ?_); (case side1 => exact HO362.out); (case side2 => exact (zq31 HO366.out)); (case side3 => exact (Kd.V_reads' HO366.out).2.1); rintro e w32 ⟨v369, v373, rfl, ho0, ho1, hb⟩; refine ⟨_, rfl, ?_⟩; have HO370 := am_ (Kd.V_lower (Kd.V_mono (ok' := fun k_ => True) ho0 (fun k_ hk_ => trivial)) (below_size zq2)); have HO374 := am_ (Kd.V_lower (Kd.V_mono (ok' := fun k_ => True) ho1 (fun k_ hk_ => trivial)) (below_size zq2)); replace HB := am_ (below_step zq2 hb); (try clear hb); (try clear ho0); (try clear ho1)) | ((with_reducible refine gate_dst (N := 1) rfl ?_); refine box_event ?hg (N := 1) ?hd (cs := #[.bool false, .slice none 0 0]) (t := 33) ?hr ?_; (case hd => rfl); (case hg => rfl); (case hr => exact zq0); intro gb376 hg w33 hbox hb; have n0_ := am_ (Kd.V_below (Kd.V_elderB (zq1 HO370.out) gb376 (Nat.le_of_eq hg.symm)) hb); have n1_ := am_ (Kd.V_below (Kd.V_elderB (zq1 HO374.out) gb376 (Nat.le_of_eq hg.symm)) hb); have n2_ := am_ (below_step zq2 hb); have n3_ := am_ (hbox); have n4_ := am_ ((by rw [hg]; exact (below_size zq2) : w.heap.size ≤ gb376)); clear HO370 HO374 HB; have HO370 := n0_; have HO374 := n1_; have HB := n2_; have BK376 := n3_; have GE376 := n4_; clear n0_ n1_ n2_ n3_ n4_; clear hb hbox hg) | ((with_reducible refine gate_dst (N := 2) rfl ?_); refine box_event ?hg (N := 2) ?hd (cs := #[.bool false, .slice none 0 0]) (t := 33) ?hr ?_; (case hd => rfl); (case hg => rfl); (case hr => exact zq0); intro gb377 hg w34 hbox hb; have n0_ := am_ (Kd.V_below (Kd.V_elderB (zq1 HO370.out) gb377 (Nat.le_of_eq hg.symm)) hb); have n1_ := am_ (Kd.V_below (Kd.V_elderB (zq1 HO374.out) gb377 (Nat.le_of_eq hg.symm)) hb); have n2_ := am_ (blk_below (g := gb376) (o := .cells #[.bool false, .slice none 0 0] 33 (0, 0)) (zq9 BK376.out) hb); have n3_ := am_ (below_step zq58 hb); have n4_ := am_ (hbox); have n5_ := am_ ((by rw [hg]; exact (below_size zq58) : w.heap.size ≤ gb377)); have n6_ := am_ ((by rw [hg]; exact Nat.ne_of_lt (blk_lt (g := gb376) (zq9 BK376.out)) : gb376 ≠ gb377)); have n7_ := am_ ((by rw [hg]; exact Nat.ne_of_gt (blk_lt (g := gb376) (zq9 BK376.out)) : gb377 ≠ gb376)); clear HO370 HO374 BK376 HB; have HO370 := n0_; have HO374 := n1_; have BK376 := n2_; have HB := n3_; have BK377 := n4_; have GE377 := n5_; have NB376_377 := n6_; have NB377_376 := n7_; clear n0_ n1_ n2_ n3_ n4_ n5_ n6_ n7_; clear hb hbox hg; have hnb35 := NB376_377.out; have hnc35 := NB377_376.out; have hcz36_0 : w34.cell? ⟨gb376, 0, none⟩ = some (.bool false) := (blk_cell BK376.out 0).trans rfl; have hcz36_1 : w34.cell? ⟨gb376, 1, none⟩ = some (.slice none 0 0) := (blk_cell BK376.out 1).trans rfl; have hfz36_0 := blk_frozen BK376.out 0; have hfz36_1 := blk_frozen BK376.out 1; obtain ⟨Ao37, co37, eo37⟩ := Kd.V_slice HO370.out; subst eo37; have hcz38_0 : w34.cell? ⟨gb377, 0, none⟩ = some (.bool false) := (blk_cell BK377.out 0).trans rfl; have hcz38_1 : w34.cell? ⟨gb377, 1, none⟩ = some (.slice none 0 0) := (blk_cell BK377.out 1).trans rfl; have hfz38_0 := blk_frozen BK377.out 0; have hfz38_1 := blk_frozen BK377.out 1; obtain ⟨Ao39, co39, eo39⟩ := Kd.V_slice HO374.out; subst eo39) | ((with_reducible refine gate_callee (f := 21) rfl ?_); refine goesL_ (some 23) rfl rfl Tryz.func21 (by kernel_rfl) rfl #[.int .i64 7] rfl zq6 ?_; (with_reducible refine (wide_From.calls k 7 t378 t379 _ A4.out).mono ?_); rintro e w40 ⟨v380, rfl, ho0, hb⟩; refine ⟨_, rfl, ?_⟩; replace HO370 := am_ (Kd.V_below (zq59 HO370.out) hb); replace HO374 := am_ (Kd.V_below (zq59 HO374.out) hb); have HO381 := am_ (Kd.V_lower (Kd.V_mono (ok' := fun k_ => k_ ≠ gb376 ∧ k_ ≠ gb377) ho0 (fun k_ hk_ => ⟨(Kd.freshB (g := gb376) (o := .cells #[.bool t367, .slice Ao37 t368.length co37] 33 (0, 0)) (zq60 BK376.out) k_ hk_), (Kd.freshB (g := gb377) (o := .cells #[.bool t371, .slice Ao39 t372.length co39] 33 (0, 0)) (zq61 BK377.out) k_ hk_)⟩)) (below_size zq62)); replace BK376 := am_ (blk_below (g := gb376) (o := .cells #[.bool t367, .slice Ao37 t368.length co37] 33 (0, 0)) (zq60 BK376.out) hb); replace BK377 := am_ (blk_below (g := gb377) (o := .cells #[.bool t371, .slice Ao39 t372.length co39] 33 (0, 0)) (zq61 BK377.out) hb); replace HB := am_ (below_step zq62 hb); (try clear hb); (try clear ho0)) | ((with_reducible refine gate_callee (f := 21) rfl ?_); refine goesL_ (some 24) rfl rfl Tryz.func21 (by kernel_rfl) rfl #[.int .i64 (-2)] rfl zq6 ?_; (with_reducible refine (wide_From.calls k (-2) t382 t383 _ A5.out).mono ?_); rintro e w41 ⟨v384, rfl, ho0, hb⟩; refine ⟨_, rfl, ?_⟩; replace HO370 := am_ (Kd.V_below (zq1 HO370.out) hb); replace HO374 := am_ (Kd.V_below (zq1 HO374.out) hb); replace HO381 := am_ (Kd.V_below (zq1 HO381.out) hb); have HO385 := am_ (Kd.V_lower (Kd.V_mono (ok' := fun k_ => k_ ≠ gb376 ∧ k_ ≠ gb377) ho0 (fun k_ hk_ => ⟨(Kd.freshB (g := gb376) (o := .cells #[.bool t367, .slice Ao37 t368.length co37] 33 (0, 0)) (zq9 BK376.out) k_ hk_), (Kd.freshB (g := gb377) (o := .cells #[.bool t371, .slice Ao39 t372.length co39] 33 (0, 0)) (zq9 BK377.out) k_ hk_)⟩)) (below_size zq62)); replace BK376 := am_ (blk_below (g := gb376) (o := .cells #[.bool t367, .slice Ao37 t368.length co37] 33 (0, 0)) (zq9 BK376.out) hb); replace BK377 := am_ (blk_below (g := gb377) (o := .cells #[.bool t371, .slice Ao39 t372.length co39] 33 (0, 0)) (zq9 BK377.out) hb); replace HB := am_ (below_step zq62 hb); (try clear hb); (try clear ho0); obtain ⟨Ao42, co42, eo42⟩ := Kd.V_slice HO381.out; subst eo42; obtain ⟨Ao43, co43, eo43⟩ := Kd.V_slice HO385.out; subst eo43) | ((with_reducible refine gate_callee (f := 30) rfl ?_); refine goesL_ (some 25) rfl rfl Tryz.func30 (by kernel_rfl) rfl #[.agg #[.bool t378, .slice Ao42 t379.length co42], .agg #[.bool t382, .slice Ao43 t383.length co43]] rfl zq6 ?_; (with_reducible refine (wide_Div.calls k t378 (fun k_ => (k_ ≠ gb376 ∧ k_ ≠ gb377)) _ _ t379 t382 _ _ t383 t386 t387 t390 t391 t394 _ ?side1 ?side2 ?side3 A6.out).mono ?_); (case side1 => exact HO381.out); (case side2 => exact (zq31 HO385.out)); (case side3 => exact (Kd.V_reads' HO385.out).2.1); rintro e w44 ⟨v388, v392, rfl, ho0, ho1, hb⟩; refine ⟨_, rfl, ?_⟩; replace HO370 := am_ (Kd.V_below (zq1 HO370.out) hb); replace HO374 := am_ (Kd.V_below (zq1 HO374.out) hb); have HO389 := am_ (Kd.V_lower (Kd.V_mono (ok' := fun k_ => k_ ≠ gb376 ∧ k_ ≠ gb377) ho0 (fun k_ hk_ => ⟨Or.elim hk_ (fun hs_ => hs_.1) (fun hn_ => (Kd.freshB (g := gb376) (o := .cells #[.bool t367, .slice Ao37 t368.length co37] 33 (0, 0)) (zq9 BK376.out) k_ hn_)), Or.elim hk_ (fun hs_ => hs_.2) (fun hn_ => (Kd.freshB (g := gb377) (o := .cells #[.bool t371, .slice Ao39 t372.length co39] 33 (0, 0)) (zq9 BK377.out) k_ hn_))⟩)) (below_size zq62)); have HO393 := am_ (Kd.V_lower (Kd.V_mono (ok' := fun k_ => k_ ≠ gb376 ∧ k_ ≠ gb377) ho1 (fun k_ hk_ => ⟨Or.elim hk_ (fun hs_ => hs_.1) (fun hn_ => (Kd.freshB (g := gb376) (o := .cells #[.bool t367, .slice Ao37 t368.length co37] 33 (0, 0)) (zq9 BK376.out) k_ hn_)), Or.elim hk_ (fun hs_ => hs_.2) (fun hn_ => (Kd.freshB (g := gb377) (o := .cells #[.bool t371, .slice Ao39 t372.length co39] 33 (0, 0)) (zq9 BK377.out) k_ hn_))⟩)) (below_size zq62)); replace BK376 := am_ (blk_below (g := gb376) (o := .cells #[.bool t367, .slice Ao37 t368.length co37] 33 (0, 0)) (zq9 BK376.out) hb); replace BK377 := am_ (blk_below (g := gb377) (o := .cells #[.bool t371, .slice Ao39 t372.length co39] 33 (0, 0)) (zq9 BK377.out) hb); replace HB := am_ (below_step zq62 hb); (try clear hb); (try clear ho0); (try clear ho1)) | ((with_reducible refine gate_dst (N := 4) rfl ?_); refine box_event ?hg (N := 4) ?hd (cs := #[.bool false, .slice none 0 0]) (t := 33) ?hr ?_; (case hd => rfl); (case hg => rfl); (case hr => exact zq0); intro gb395 hg w45 hbox hb; have n0_ := am_ (Kd.V_below (Kd.V_elderB (zq1 HO370.out) gb395 (Nat.le_of_eq hg.symm)) hb); have n1_ := am_ (Kd.V_below (Kd.V_elderB (zq1 HO374.out) gb395 (Nat.le_of_eq hg.symm)) hb); have n2_ := am_ (Kd.V_below (Kd.V_elderB (zq1 HO389.out) gb395 (Nat.le_of_eq hg.symm)) hb); have n3_ := am_ (Kd.V_below (Kd.V_elderB (zq1 HO393.out) gb395 (Nat.le_of_eq hg.symm)) hb); have n4_ := am_ (blk_below (g := gb376) (o := .cells #[.bool t367, .slice Ao37 t368.length co37] 33 (0, 0)) (zq9 BK376.out) hb); have n5_ := am_ (blk_below (g := gb377) (o := .cells #[.bool t371, .slice Ao39 t372.length co39] 33 (0, 0)) (zq9 BK377.out) hb); have n6_ := am_ (below_step zq62 hb); have n7_ := am_ (hbox); have n8_ := am_ ((by rw [hg]; exact (below_size zq62) : w.heap.size ≤ gb395)); have n9_ := am_ ((by rw [hg]; exact Nat.ne_of_lt (blk_lt (g := gb376) (zq9 BK376.out)) : gb376 ≠ gb395)); have n10_ := am_ ((by rw [hg]; exact Nat.ne_of_gt (blk_lt (g := gb376) (zq9 BK376.out)) : gb395 ≠ gb376)); have n11_ := am_ ((by rw [hg]; exact Nat.ne_of_lt (blk_lt (g := gb377) (zq9 BK377.out)) : gb377 ≠ gb395)); have n12_ := am_ ((by rw [hg]; exact Nat.ne_of_gt (blk_lt (g := gb377) (zq9 BK377.out)) : gb395 ≠ gb377)); clear HO370 HO374 HO389 HO393 BK376 BK377 HB; have HO370 := n0_; have HO374 := n1_; have HO389 := n2_; have HO393 := n3_; have BK376 := n4_; have BK377 := n5_; have HB := n6_; have BK395 := n7_; have GE395 := n8_; have NB376_395 := n9_; have NB395_376 := n10_; have NB377_395 := n11_; have NB395_377 := n12_; clear n0_ n1_ n2_ n3_ n4_ n5_ n6_ n7_ n8_ n9_ n10_ n11_ n12_; clear hb hbox hg) | ((with_reducible refine gate_dst (N := 5) rfl ?_); refine box_event ?hg (N := 5) ?hd (cs := #[.bool false, .slice none 0 0]) (t := 33) ?hr ?_; (case hd => rfl); (case hg => rfl); (case hr => exact zq0); intro gb396 hg w46 hbox hb; have n0_ := am_ (Kd.V_below (Kd.V_elderB (zq1 HO370.out) gb396 (Nat.le_of_eq hg.symm)) hb); have n1_ := am_ (Kd.V_below (Kd.V_elderB (zq1 HO374.out) gb396 (Nat.le_of_eq hg.symm)) hb); have n2_ := am_ (Kd.V_below (Kd.V_elderB (zq1 HO389.out) gb396 (Nat.le_of_eq hg.symm)) hb); have n3_ := am_ (Kd.V_below (Kd.V_elderB (zq1 HO393.out) gb396 (Nat.le_of_eq hg.symm)) hb); have n4_ := am_ (blk_below (g := gb376) (o := .cells #[.bool t367, .slice Ao37 t368.length co37] 33 (0, 0)) (zq9 BK376.out) hb); have n5_ := am_ (blk_below (g := gb377) (o := .cells #[.bool t371, .slice Ao39 t372.length co39] 33 (0, 0)) (zq9 BK377.out) hb); have n6_ := am_ (blk_below (g := gb395) (o := .cells #[.bool false, .slice none 0 0] 33 (0, 0)) (zq9 BK395.out) hb); have n7_ := am_ (below_step zq63 hb); have n8_ := am_ (hbox); have n9_ := am_ ((by rw [hg]; exact (below_size zq63) : w.heap.size ≤ gb396)); have n10_ := am_ ((by rw [hg]; exact Nat.ne_of_lt (blk_lt (g := gb376) (zq9 BK376.out)) : gb376 ≠ gb396)); have n11_ := am_ ((by rw [hg]; exact Nat.ne_of_gt (blk_lt (g := gb376) (zq9 BK376.out)) : gb396 ≠ gb376)); have n12_ := am_ ((by rw [hg]; exact Nat.ne_of_lt (blk_lt (g := gb377) (zq9 BK377.out)) : gb377 ≠ gb396)); have n13_ := am_ ((by rw [hg]; exact Nat.ne_of_gt (blk_lt (g := gb377) (zq9 BK377.out)) : gb396 ≠ gb377)); have n14_ := am_ ((by rw [hg]; exact Nat.ne_of_lt (blk_lt (g := gb395) (zq9 BK395.out)) : gb395 ≠ gb396)); have n15_ := am_ ((by rw [hg]; exact Nat.ne_of_gt (blk_lt (g := gb395) (zq9 BK395.out)) : gb396 ≠ gb395)); clear HO370 HO374 HO389 HO393 BK376 BK377 BK395 HB; have HO370 := n0_; have HO374 := n1_; have HO389 := n2_; have HO393 := n3_; have BK376 := n4_; have BK377 := n5_; have BK395 := n6_; have HB := n7_; have BK396 := n8_; have GE396 := n9_; have NB376_396 := n10_; have NB396_376 := n11_; have NB377_396 := n12_; have NB396_377 := n13_; have NB395_396 := n14_; have NB396_395 := n15_; clear n0_ n1_ n2_ n3_ n4_ n5_ n6_ n7_ n8_ n9_ n10_ n11_ n12_ n13_ n14_ n15_; clear hb hbox hg; have hnb47 := NB395_376.out; have hnc47 := NB376_395.out; have hnb48 := NB395_377.out; have hnc48 := NB377_395.out; have hnb49 := NB395_396.out; have hnc49 := NB396_395.out; have hcz50_0 : w46.cell? ⟨gb395, 0, none⟩ = some (.bool false) := (blk_cell BK395.out 0).trans rfl; have hcz50_1 : w46.cell? ⟨gb395, 1, none⟩ = some (.slice none 0 0) := (blk_cell BK395.out 1).trans rfl; have hfz50_0 := blk_frozen BK395.out 0; have hfz50_1 := blk_frozen BK395.out 1; obtain ⟨Ao51, co51, eo51⟩ := Kd.V_slice HO389.out; subst eo51; have hnb52 := NB396_376.out; have hnc52 := NB376_396.out; have hnb53 := NB396_377.out; have hnc53 := NB377_396.out; have hcz54_0 : w46.cell? ⟨gb396, 0, none⟩ = some (.bool false) := (blk_cell BK396.out 0).trans rfl; have hcz54_1 : w46.cell? ⟨gb396, 1, none⟩ = some (.slice none 0 0) := (blk_cell BK396.out 1).trans rfl; have hfz54_0 := blk_frozen BK396.out 0; have hfz54_1 := blk_frozen BK396.out 1; obtain ⟨Ao55, co55, eo55⟩ := Kd.V_slice HO393.out; subst eo55) | ((with_reducible refine gate_callee (f := 21) rfl ?_); refine goesL_ (some 30) rfl rfl Tryz.func21 (by kernel_rfl) rfl #[.int .i64 4294967296] rfl zq6 ?_; (with_reducible refine (wide_From.calls k 4294967296 t397 t398 _ A7.out).mono ?_); rintro e w56 ⟨v399, rfl, ho0, hb⟩; refine ⟨_, rfl, ?_⟩; clear A7; replace HO370 := am_ (Kd.V_below (zq64 HO370.out) hb); replace HO374 := am_ (Kd.V_below (zq64 HO374.out) hb); replace HO389 := am_ (Kd.V_below (zq64 HO389.out) hb); replace HO393 := am_ (Kd.V_below (zq64 HO393.out) hb); have HO400 := am_ (Kd.V_lower (Kd.V_mono (ok' := fun k_ => k_ ≠ gb376 ∧ k_ ≠ gb377 ∧ k_ ≠ gb395 ∧ k_ ≠ gb396) ho0 (fun k_ hk_ => ⟨(Kd.freshB (g := gb376) (o := .cells #[.bool t367, .slice Ao37 t368.length co37] 33 (0, 0)) (zq65 BK376.out) k_ hk_), (Kd.freshB (g := gb377) (o := .cells #[.bool t371, .slice Ao39 t372.length co39] 33 (0, 0)) (zq66 BK377.out) k_ hk_), (Kd.freshB (g := gb395) (o := .cells #[.bool t386, .slice Ao51 t387.length co51] 33 (0, 0)) (zq67 BK395.out) k_ hk_), (Kd.freshB (g := gb396) (o := .cells #[.bool t390, .slice Ao55 t391.length co55] 33 (0, 0)) (zq68 BK396.out) k_ hk_)⟩)) (below_size zq69)); replace BK376 := am_ (blk_below (g := gb376) (o := .cells #[.bool t367, .slice Ao37 t368.length co37] 33 (0, 0)) (zq65 BK376.out) hb); replace BK377 := am_ (blk_below (g := gb377) (o := .cells #[.bool t371, .slice Ao39 t372.length co39] 33 (0, 0)) (zq66 BK377.out) hb); replace BK395 := am_ (blk_below (g := gb395) (o := .cells #[.bool t386, .slice Ao51 t387.length co51] 33 (0, 0)) (zq67 BK395.out) hb); replace BK396 := am_ (blk_below (g := gb396) (o := .cells #[.bool t390, .slice Ao55 t391.length co55] 33 (0, 0)) (zq68 BK396.out) hb); replace HB := am_ (below_step zq69 hb)) | ((with_reducible refine gate_callee (f := 21) rfl ?_); refine goesL_ (some 31) rfl rfl Tryz.func21 (by kernel_rfl) rfl #[.int .i64 4294967296] rfl zq6 ?_; (with_reducible refine (wide_From.calls k 4294967296 t401 t402 _ A8.out).mono ?_); rintro e w57 ⟨v403, rfl, ho0, hb⟩; refine ⟨_, rfl, ?_⟩; clear A8; replace HO370 := am_ (Kd.V_below (zq1 HO370.out) hb); replace HO374 := am_ (Kd.V_below (zq1 HO374.out) hb); replace HO389 := am_ (Kd.V_below (zq1 HO389.out) hb); replace HO393 := am_ (Kd.V_below (zq1 HO393.out) hb); replace HO400 := am_ (Kd.V_below (zq1 HO400.out) hb); have HO404 := am_ (Kd.V_lower (Kd.V_mono (ok' := fun k_ => k_ ≠ gb376 ∧ k_ ≠ gb377 ∧ k_ ≠ gb395 ∧ k_ ≠ gb396) ho0 (fun k_ hk_ => ⟨(Kd.freshB (g := gb376) (o := .cells #[.bool t367, .slice Ao37 t368.length co37] 33 (0, 0)) (zq9 BK376.out) k_ hk_), (Kd.freshB (g := gb377) (o := .cells #[.bool t371, .slice Ao39 t372.length co39] 33 (0, 0)) (zq9 BK377.out) k_ hk_), (Kd.freshB (g := gb395) (o := .cells #[.bool t386, .slice Ao51 t387.length co51] 33 (0, 0)) (zq9 BK395.out) k_ hk_), (Kd.freshB (g := gb396) (o := .cells #[.bool t390, .slice Ao55 t391.length co55] 33 (0, 0)) (zq9 BK396.out) k_ hk_)⟩)) (below_size zq69)); replace BK376 := am_ (blk_below (g := gb376) (o := .cells #[.bool t367, .slice Ao37 t368.length co37] 33 (0, 0)) (zq9 BK376.out) hb); replace BK377 := am_ (blk_below (g := gb377) (o := .cells #[.bool t371, .slice Ao39 t372.length co39] 33 (0, 0)) (zq9 BK377.out) hb); replace BK395 := am_ (blk_below (g := gb395) (o := .cells #[.bool t386, .slice Ao51 t387.length co51] 33 (0, 0)) (zq9 BK395.out) hb); replace BK396 := am_ (blk_below (g := gb396) (o := .cells #[.bool t390, .slice Ao55 t391.length co55] 33 (0, 0)) (zq9 BK396.out) hb); replace HB := am_ (below_step zq69 hb); (try clear hb); (try clear ho0); obtain ⟨Ao58, co58, eo58⟩ := Kd.V_slice HO400.out; subst eo58; obtain ⟨Ao59, co59, eo59⟩ := Kd.V_slice HO404.out; subst eo59) | ((with_reducible refine gate_callee (f := 27) rfl ?_); refine goesL_ (some 32) rfl rfl Tryz.func27 (by kernel_rfl) rfl #[.agg #[.bool t397, .slice Ao58 t398.length co58], .agg #[.bool t401, .slice Ao59 t402.length co59]] rfl zq6 ?_; (with_reducible refine (wide_Mul.calls k t397 _ _ t398 t401 _ _ t402 t405 t406 t409 _ ?side1 ?side2 ?side3 ?side4 A9.out).mono ?_); (case side1 => exact (zq31 HO400.out)); (case side2 => exact (Kd.V_reads' HO400.out).2.1); (case side3 => exact (zq31 HO404.out)); (case side4 => exact (Kd.V_reads' HO404.out).2.1); rintro e w60 ⟨v407, rfl, ho0, hb⟩; refine ⟨_, rfl, ?_⟩; replace HO370 := am_ (Kd.V_below (zq1 HO370.out) hb); replace HO374 := am_ (Kd.V_below (zq1 HO374.out) hb); replace HO389 := am_ (Kd.V_below (zq1 HO389.out) hb); replace HO393 := am_ (Kd.V_below (zq1 HO393.out) hb); have HO408 := am_ (Kd.V_lower (Kd.V_mono (ok' := fun k_ => k_ ≠ gb376 ∧ k_ ≠ gb377 ∧ k_ ≠ gb395 ∧ k_ ≠ gb396) ho0 (fun k_ hk_ => ⟨(Kd.freshB (g := gb376) (o := .cells #[.bool t367, .slice Ao37 t368.length co37] 33 (0, 0)) (zq9 BK376.out) k_ hk_), (Kd.freshB (g := gb377) (o := .cells #[.bool t371, .slice Ao39 t372.length co39] 33 (0, 0)) (zq9 BK377.out) k_ hk_), (Kd.freshB (g := gb395) (o := .cells #[.bool t386, .slice Ao51 t387.length co51] 33 (0, 0)) (zq9 BK395.out) k_ hk_), (Kd.freshB (g := gb396) (o := .cells #[.bool t390, .slice Ao55 t391.length co55] 33 (0, 0)) (zq9 BK396.out) k_ hk_)⟩)) (below_size zq69)); replace BK376 := am_ (blk_below (g := gb376) (o := .cells #[.bool t367, .slice Ao37 t368.length co37] 33 (0, 0)) (zq9 BK376.out) hb); replace BK377 := am_ (blk_below (g := gb377) (o := .cells #[.bool t371, .slice Ao39 t372.length co39] 33 (0, 0)) (zq9 BK377.out) hb); replace BK395 := am_ (blk_below (g := gb395) (o := .cells #[.bool t386, .slice Ao51 t387.length co51] 33 (0, 0)) (zq9 BK395.out) hb); replace BK396 := am_ (blk_below (g := gb396) (o := .cells #[.bool t390, .slice Ao55 t391.length co55] 33 (0, 0)) (zq9 BK396.out) hb); replace HB := am_ (below_step zq69 hb); (try clear hb); (try clear ho0)) | ((with_reducible refine gate_dst (N := 7) rfl ?_); refine box_event ?hg (N := 7) ?hd (cs := #[.bool false, .slice none 0 0]) (t := 33) ?hr ?_; (case hd => rfl); (case hg => rfl); (case hr => exact zq0); intro gb410 hg w61 hbox hb; have n0_ := am_ (Kd.V_below (Kd.V_elderB (zq1 HO370.out) gb410 (Nat.le_of_eq hg.symm)) hb); have n1_ := am_ (Kd.V_below (Kd.V_elderB (zq1 HO374.out) gb410 (Nat.le_of_eq hg.symm)) hb); have n2_ := am_ (Kd.V_below (Kd.V_elderB (zq1 HO389.out) gb410 (Nat.le_of_eq hg.symm)) hb); have n3_ := am_ (Kd.V_below (Kd.V_elderB (zq1 HO393.out) gb410 (Nat.le_of_eq hg.symm)) hb); have n4_ := am_ (Kd.V_below (Kd.V_elderB (zq1 HO408.out) gb410 (Nat.le_of_eq hg.symm)) hb); have n5_ := am_ (blk_below (g := gb376) (o := .cells #[.bool t367, .slice Ao37 t368.length co37] 33 (0, 0)) (zq9 BK376.out) hb); have n6_ := am_ (blk_below (g := gb377) (o := .cells #[.bool t371, .slice Ao39 t372.length co39] 33 (0, 0)) (zq9 BK377.out) hb); have n7_ := am_ (blk_below (g := gb395) (o := .cells #[.bool t386, .slice Ao51 t387.length co51] 33 (0, 0)) (zq9 BK395.out) hb); have n8_ := am_ (blk_below (g := gb396) (o := .cells #[.bool t390, .slice Ao55 t391.length co55] 33 (0, 0)) (zq9 BK396.out) hb); have n9_ := am_ (below_step zq69 hb); have n10_ := am_ (hbox); have n11_ := am_ ((by rw [hg]; exact (below_size zq69) : w.heap.size ≤ gb410)); have n12_ := am_ ((by rw [hg]; exact Nat.ne_of_lt (blk_lt (g := gb376) (zq9 BK376.out)) : gb376 ≠ gb410)); have n13_ := am_ ((by rw [hg]; exact Nat.ne_of_gt (blk_lt (g := gb376) (zq9 BK376.out)) : gb410 ≠ gb376)); have n14_ := am_ ((by rw [hg]; exact Nat.ne_of_lt (blk_lt (g := gb377) (zq9 BK377.out)) : gb377 ≠ gb410)); have n15_ := am_ ((by rw [hg]; exact Nat.ne_of_gt (blk_lt (g := gb377) (zq9 BK377.out)) : gb410 ≠ gb377)); have n16_ := am_ ((by rw [hg]; exact Nat.ne_of_lt (blk_lt (g := gb395) (zq9 BK395.out)) : gb395 ≠ gb410)); have n17_ := am_ ((by rw [hg]; exact Nat.ne_of_gt (blk_lt (g := gb395) (zq9 BK395.out)) : gb410 ≠ gb395)); have n18_ := am_ ((by rw [hg]; exact Nat.ne_of_lt (blk_lt (g := gb396) (zq9 BK396.out)) : gb396 ≠ gb410)); have n19_ := am_ ((by rw [hg]; exact Nat.ne_of_gt (blk_lt (g := gb396) (zq9 BK396.out)) : gb410 ≠ gb396)); clear HO370 HO374 HO389 HO393 HO408 BK376 BK377 BK395 BK396 HB; have HO370 := n0_; have HO374 := n1_; have HO389 := n2_; have HO393 := n3_; have HO408 := n4_; have BK376 := n5_; have BK377 := n6_; have BK395 := n7_; have BK396 := n8_; have HB := n9_; have BK410 := n10_; have GE410 := n11_; have NB376_410 := n12_; have NB410_376 := n13_; have NB377_410 := n14_; have NB410_377 := n15_; have NB395_410 := n16_; have NB410_395 := n17_; have NB396_410 := n18_; have NB410_396 := n19_; clear n0_ n1_ n2_ n3_ n4_ n5_ n6_ n7_ n8_ n9_ n10_ n11_ n12_ n13_ n14_ n15_ n16_ n17_ n18_ n19_; clear hb hbox hg; have hnb62 := NB410_376.out; have hnc62 := NB376_410.out; have hnb63 := NB410_377.out; have hnc63 := NB377_410.out; have hnb64 := NB410_395.out; have hnc64 := NB395_410.out; have hnb65 := NB410_396.out; have hnc65 := NB396_410.out; have hcz66_0 : w61.cell? ⟨gb410, 0, none⟩ = some (.bool false) := (blk_cell BK410.out 0).trans rfl; have hcz66_1 : w61.cell? ⟨gb410, 1, none⟩ = some (.slice none 0 0) := (blk_cell BK410.out 1).trans rfl; have hfz66_0 := blk_frozen BK410.out 0; have hfz66_1 := blk_frozen BK410.out 1; obtain ⟨Ao67, co67, eo67⟩ := Kd.V_slice HO408.out; subst eo67) | ((with_reducible refine gate_callee (f := 22) rfl ?_); refine goesL_ (some 37) rfl rfl Tryz.func22 (by kernel_rfl) rfl #[.agg #[.bool t405, .slice Ao67 t406.length co67]] rfl zq6 ?_; (with_reducible refine (wide_Int_Small.calls k t405 _ _ t406 t411 false _ ?side1 ?side2 A10.out).mono ?_); (case side1 => refine (Kd.V_reads' (e := 81) (base := w.heap.size) (ok := fun k_ => ((k_ ≠ gb376 ∧ (k_ ≠ gb377 ∧ (k_ ≠ gb395 ∧ k_ ≠ gb396))) ∧ k_ ≠ gb410)) (n := t406.length) (c := co67) ?_).2.2; exact (zq70 HO408.out)); (case side2 => exact (Kd.V_reads' HO408.out).2.1); rintro e w68 ⟨rfl, hb⟩; refine ⟨_, rfl, ?_⟩; replace HO370 := am_ (Kd.V_below (zq70 HO370.out) hb); replace HO374 := am_ (Kd.V_below (zq70 HO374.out) hb); replace HO389 := am_ (Kd.V_below (zq70 HO389.out) hb); replace HO393 := am_ (Kd.V_below (zq70 HO393.out) hb); replace HO408 := am_ (Kd.V_below (zq70 HO408.out) hb); replace BK376 := am_ (blk_below (g := gb376) (o := .cells #[.bool t367, .slice Ao37 t368.length co37] 33 (0, 0)) (by (with_reducible repeat (first | refine blk_drewN ?_ _ | refine blk_drew ?_ | refine blk_alloc ?_ _)); refine blk_far ?_ NB376_410.out _; (with_reducible repeat (first | refine blk_drewN ?_ _ | refine blk_drew ?_ | refine blk_alloc ?_ _)); refine blk_far ?_ NB376_410.out _; (with_reducible repeat (first | refine blk_drewN ?_ _ | refine blk_drew ?_ | refine blk_alloc ?_ _)); exact BK376.out) hb); replace BK377 := am_ (blk_below (g := gb377) (o := .cells #[.bool t371, .slice Ao39 t372.length co39] 33 (0, 0)) (by (with_reducible repeat (first | refine blk_drewN ?_ _ | refine blk_drew ?_ | refine blk_alloc ?_ _)); refine blk_far ?_ NB377_410.out _; (with_reducible repeat (first | refine blk_drewN ?_ _ | refine blk_drew ?_ | refine blk_alloc ?_ _)); refine blk_far ?_ NB377_410.out _; (with_reducible repeat (first | refine blk_drewN ?_ _ | refine blk_drew ?_ | refine blk_alloc ?_ _)); exact BK377.out) hb); replace BK395 := am_ (blk_below (g := gb395) (o := .cells #[.bool t386, .slice Ao51 t387.length co51] 33 (0, 0)) (by (with_reducible repeat (first | refine blk_drewN ?_ _ | refine blk_drew ?_ | refine blk_alloc ?_ _)); refine blk_far ?_ NB395_410.out _; (with_reducible repeat (first | refine blk_drewN ?_ _ | refine blk_drew ?_ | refine blk_alloc ?_ _)); refine blk_far ?_ NB395_410.out _; (with_reducible repeat (first | refine blk_drewN ?_ _ | refine blk_drew ?_ | refine blk_alloc ?_ _)); exact BK395.out) hb); replace BK396 := am_ (blk_below (g := gb396) (o := .cells #[.bool t390, .slice Ao55 t391.length co55] 33 (0, 0)) (by (with_reducible repeat (first | refine blk_drewN ?_ _ | refine blk_drew ?_ | refine blk_alloc ?_ _)); refine blk_far ?_ NB396_410.out _; (with_reducible repeat (first | refine blk_drewN ?_ _ | refine blk_drew ?_ | refine blk_alloc ?_ _)); refine blk_far ?_ NB396_410.out _; (with_reducible repeat (first | refine blk_drewN ?_ _ | refine blk_drew ?_ | refine blk_alloc ?_ _)); exact BK396.out) hb); replace BK410 := am_ (blk_below (g := gb410) (o := .cells #[.bool t405, .slice Ao67 t406.length co67] 33 (0, 0)) (by (with_reducible repeat (first | refine blk_drewN ?_ _ | refine blk_drew ?_ | refine blk_alloc ?_ _)); refine blk_put (cs := #[.bool t405, .slice none 0 0]) ?_ 1 _ rfl; (with_reducible repeat (first | refine blk_drewN ?_ _ | refine blk_drew ?_ | refine blk_alloc ?_ _)); refine blk_put (cs := #[.bool false, .slice none 0 0]) ?_ 0 _ rfl; (with_reducible repeat (first | refine blk_drewN ?_ _ | refine blk_drew ?_ | refine blk_alloc ?_ _)); exact BK410.out) hb); replace HB := am_ (below_step zq71 hb); (try clear hb)) | ((with_reducible refine gate_callee (f := 16) rfl ?_); refine goesL_ (some 41) rfl rfl Tryz.func16 (by kernel_rfl) rfl #[.string (⟨#[45, 48]⟩ : ByteArray)] rfl zq6 ?_; (with_reducible refine (wide_Parse.calls k (⟨#[45, 48]⟩ : ByteArray) t413 t414 t417 _ A11.out).mono ?_); rintro e w69 ⟨v415, rfl, ho0, hb⟩; refine ⟨_, rfl, ?_⟩; replace HO370 := am_ (Kd.V_below (zq1 HO370.out) hb); replace HO374 := am_ (Kd.V_below (zq1 HO374.out) hb); replace HO389 := am_ (Kd.V_below (zq1 HO389.out) hb); replace HO393 := am_ (Kd.V_below (zq1 HO393.out) hb); replace HO408 := am_ (Kd.V_below (zq1 HO408.out) hb); have HO416 := am_ (Kd.V_lower (Kd.V_mono (ok' := fun k_ => k_ ≠ gb376 ∧ k_ ≠ gb377 ∧ k_ ≠ gb395 ∧ k_ ≠ gb396 ∧ k_ ≠ gb410) ho0 (fun k_ hk_ => ⟨(Kd.freshB (g := gb376) (o := .cells #[.bool t367, .slice Ao37 t368.length co37] 33 (0, 0)) (zq9 BK376.out) k_ hk_), (Kd.freshB (g := gb377) (o := .cells #[.bool t371, .slice Ao39 t372.length co39] 33 (0, 0)) (zq9 BK377.out) k_ hk_), (Kd.freshB (g := gb395) (o := .cells #[.bool t386, .slice Ao51 t387.length co51] 33 (0, 0)) (zq9 BK395.out) k_ hk_), (Kd.freshB (g := gb396) (o := .cells #[.bool t390, .slice Ao55 t391.length co55] 33 (0, 0)) (zq9 BK396.out) k_ hk_), (Kd.freshB (g := gb410) (o := .cells #[.bool t405, .slice Ao67 t406.length co67] 33 (0, 0)) (zq9 BK410.out) k_ hk_)⟩)) (below_size zq71)); replace BK376 := am_ (blk_below (g := gb376) (o := .cells #[.bool t367, .slice Ao37 t368.length co37] 33 (0, 0)) (zq9 BK376.out) hb); replace BK377 := am_ (blk_below (g := gb377) (o := .cells #[.bool t371, .slice Ao39 t372.length co39] 33 (0, 0)) (zq9 BK377.out) hb); replace BK395 := am_ (blk_below (g := gb395) (o := .cells #[.bool t386, .slice Ao51 t387.length co51] 33 (0, 0)) (zq9 BK395.out) hb); replace BK396 := am_ (blk_below (g := gb396) (o := .cells #[.bool t390, .slice Ao55 t391.length co55] 33 (0, 0)) (zq9 BK396.out) hb); replace BK410 := am_ (blk_below (g := gb410) (o := .cells #[.bool t405, .slice Ao67 t406.length co67] 33 (0, 0)) (zq9 BK410.out) hb); replace HB := am_ (below_step zq71 hb); (try clear hb); (try clear ho0)) | ((with_reducible refine gate_dst (N := 11) rfl ?_); refine box_event ?hg (N := 11) ?hd (cs := #[.bool false, .slice none 0 0]) (t := 33) ?hr ?_; (case hd => rfl); (case hg => rfl); (case hr => exact zq0); intro gb418 hg w70 hbox hb; have n0_ := am_ (Kd.V_below (Kd.V_elderB (zq1 HO370.out) gb418 (Nat.le_of_eq hg.symm)) hb); have n1_ := am_ (Kd.V_below (Kd.V_elderB (zq1 HO374.out) gb418 (Nat.le_of_eq hg.symm)) hb); have n2_ := am_ (Kd.V_below (Kd.V_elderB (zq1 HO389.out) gb418 (Nat.le_of_eq hg.symm)) hb); have n3_ := am_ (Kd.V_below (Kd.V_elderB (zq1 HO393.out) gb418 (Nat.le_of_eq hg.symm)) hb); have n4_ := am_ (Kd.V_below (Kd.V_elderB (zq1 HO408.out) gb418 (Nat.le_of_eq hg.symm)) hb); have n5_ := am_ (Kd.V_below (Kd.V_elderB (zq1 HO416.out) gb418 (Nat.le_of_eq hg.symm)) hb); have n6_ := am_ (blk_below (g := gb376) (o := .cells #[.bool t367, .slice Ao37 t368.length co37] 33 (0, 0)) (zq9 BK376.out) hb); have n7_ := am_ (blk_below (g := gb377) (o := .cells #[.bool t371, .slice Ao39 t372.length co39] 33 (0, 0)) (zq9 BK377.out) hb); have n8_ := am_ (blk_below (g := gb395) (o := .cells #[.bool t386, .slice Ao51 t387.length co51] 33 (0, 0)) (zq9 BK395.out) hb); have n9_ := am_ (blk_below (g := gb396) (o := .cells #[.bool t390, .slice Ao55 t391.length co55] 33 (0, 0)) (zq9 BK396.out) hb); have n10_ := am_ (blk_below (g := gb410) (o := .cells #[.bool t405, .slice Ao67 t406.length co67] 33 (0, 0)) (zq9 BK410.out) hb); have n11_ := am_ (below_step zq71 hb); have n12_ := am_ (hbox); have n13_ := am_ ((by rw [hg]; exact (below_size zq71) : w.heap.size ≤ gb418)); have n14_ := am_ ((by rw [hg]; exact Nat.ne_of_lt (blk_lt (g := gb376) (zq9 BK376.out)) : gb376 ≠ gb418)); have n15_ := am_ ((by rw [hg]; exact Nat.ne_of_gt (blk_lt (g := gb376) (zq9 BK376.out)) : gb418 ≠ gb376)); have n16_ := am_ ((by rw [hg]; exact Nat.ne_of_lt (blk_lt (g := gb377) (zq9 BK377.out)) : gb377 ≠ gb418)); have n17_ := am_ ((by rw [hg]; exact Nat.ne_of_gt (blk_lt (g := gb377) (zq9 BK377.out)) : gb418 ≠ gb377)); have n18_ := am_ ((by rw [hg]; exact Nat.ne_of_lt (blk_lt (g := gb395) (zq9 BK395.out)) : gb395 ≠ gb418)); have n19_ := am_ ((by rw [hg]; exact Nat.ne_of_gt (blk_lt (g := gb395) (zq9 BK395.out)) : gb418 ≠ gb395)); have n20_ := am_ ((by rw [hg]; exact Nat.ne_of_lt (blk_lt (g := gb396) (zq9 BK396.out)) : gb396 ≠ gb418)); have n21_ := am_ ((by rw [hg]; exact Nat.ne_of_gt (blk_lt (g := gb396) (zq9 BK396.out)) : gb418 ≠ gb396)); have n22_ := am_ ((by rw [hg]; exact Nat.ne_of_lt (blk_lt (g := gb410) (zq9 BK410.out)) : gb410 ≠ gb418)); have n23_ := am_ ((by rw [hg]; exact Nat.ne_of_gt (blk_lt (g := gb410) (zq9 BK410.out)) : gb418 ≠ gb410)); clear HO370 HO374 HO389 HO393 HO408 HO416 BK376 BK377 BK395 BK396 BK410 HB; have HO370 := n0_; have HO374 := n1_; have HO389 := n2_; have HO393 := n3_; have HO408 := n4_; have HO416 := n5_; have BK376 := n6_; have BK377 := n7_; have BK395 := n8_; have BK396 := n9_; have BK410 := n10_; have HB := n11_; have BK418 := n12_; have GE418 := n13_; have NB376_418 := n14_; have NB418_376 := n15_; have NB377_418 := n16_; have NB418_377 := n17_; have NB395_418 := n18_; have NB418_395 := n19_; have NB396_418 := n20_; have NB418_396 := n21_; have NB410_418 := n22_; have NB418_410 := n23_; clear n0_ n1_ n2_ n3_ n4_ n5_ n6_ n7_ n8_ n9_ n10_ n11_ n12_ n13_ n14_ n15_ n16_ n17_ n18_ n19_ n20_ n21_ n22_ n23_; clear hb hbox hg; have hnb71 := NB418_376.out; have hnc71 := NB376_418.out; have hnb72 := NB418_377.out; have hnc72 := NB377_418.out; have hnb73 := NB418_395.out; have hnc73 := NB395_418.out; have hnb74 := NB418_396.out; have hnc74 := NB396_418.out; have hnb75 := NB418_410.out; have hnc75 := NB410_418.out; have hcz76_0 : w70.cell? ⟨gb418, 0, none⟩ = some (.bool false) := (blk_cell BK418.out 0).trans rfl; have hcz76_1 : w70.cell? ⟨gb418, 1, none⟩ = some (.slice none 0 0) := (blk_cell BK418.out 1).trans rfl; have hfz76_0 := blk_frozen BK418.out 0; have hfz76_1 := blk_frozen BK418.out 1; obtain ⟨Ao77, co77, eo77⟩ := Kd.V_slice HO416.out; subst eo77) | ((with_reducible refine gate_callee (f := 16) rfl ?_); refine goesL_ (some 45) rfl rfl Tryz.func16 (by kernel_rfl) rfl #[.string (⟨#[48, 49]⟩ : ByteArray)] rfl zq6 ?_; (with_reducible refine (wide_Parse.calls k (⟨#[48, 49]⟩ : ByteArray) t419 t420 t423 _ A12.out).mono ?_); rintro e w78 ⟨v421, rfl, ho0, hb⟩; refine ⟨_, rfl, ?_⟩; replace HO370 := am_ (Kd.V_below (zq72 HO370.out) hb); replace HO374 := am_ (Kd.V_below (zq72 HO374.out) hb); replace HO389 := am_ (Kd.V_below (zq72 HO389.out) hb); replace HO393 := am_ (Kd.V_below (zq72 HO393.out) hb); replace HO408 := am_ (Kd.V_below (zq72 HO408.out) hb); have HO422 := am_ (Kd.V_lower (Kd.V_mono (ok' := fun k_ => k_ ≠ gb376 ∧ k_ ≠ gb377 ∧ k_ ≠ gb395 ∧ k_ ≠ gb396 ∧ k_ ≠ gb410 ∧ k_ ≠ gb418) ho0 (fun k_ hk_ => ⟨(Kd.freshB (g := gb376) (o := .cells #[.bool t367, .slice Ao37 t368.length co37] 33 (0, 0)) (zq73 BK376.out) k_ hk_), (Kd.freshB (g := gb377) (o := .cells #[.bool t371, .slice Ao39 t372.length co39] 33 (0, 0)) (zq74 BK377.out) k_ hk_), (Kd.freshB (g := gb395) (o := .cells #[.bool t386, .slice Ao51 t387.length co51] 33 (0, 0)) (zq75 BK395.out) k_ hk_), (Kd.freshB (g := gb396) (o := .cells #[.bool t390, .slice Ao55 t391.length co55] 33 (0, 0)) (zq76 BK396.out) k_ hk_), (Kd.freshB (g := gb410) (o := .cells #[.bool t405, .slice Ao67 t406.length co67] 33 (0, 0)) (zq77 BK410.out) k_ hk_), (Kd.freshB (g := gb418) (o := .cells #[.bool t413, .slice Ao77 t414.length co77] 33 (0, 0)) (zq78 BK418.out) k_ hk_)⟩)) (below_size zq79)); replace BK376 := am_ (blk_below (g := gb376) (o := .cells #[.bool t367, .slice Ao37 t368.length co37] 33 (0, 0)) (zq73 BK376.out) hb); replace BK377 := am_ (blk_below (g := gb377) (o := .cells #[.bool t371, .slice Ao39 t372.length co39] 33 (0, 0)) (zq74 BK377.out) hb); replace BK395 := am_ (blk_below (g := gb395) (o := .cells #[.bool t386, .slice Ao51 t387.length co51] 33 (0, 0)) (zq75 BK395.out) hb); replace BK396 := am_ (blk_below (g := gb396) (o := .cells #[.bool t390, .slice Ao55 t391.length co55] 33 (0, 0)) (zq76 BK396.out) hb); replace BK410 := am_ (blk_below (g := gb410) (o := .cells #[.bool t405, .slice Ao67 t406.length co67] 33 (0, 0)) (zq77 BK410.out) hb); replace BK418 := am_ (blk_below (g := gb418) (o := .cells #[.bool t413, .slice Ao77 t414.length co77] 33 (0, 0)) (zq78 BK418.out) hb); replace HB := am_ (below_step zq79 hb)) | ((with_reducible refine gate_dst (N := 13) rfl ?_); refine box_event ?hg (N := 13) ?hd (cs := #[.bool false, .slice none 0 0]) (t := 33) ?hr ?_; (case hd => rfl); (case hg => rfl); (case hr => exact zq0); intro gb424 hg w79 hbox hb; have n0_ := am_ (Kd.V_below (Kd.V_elderB (zq1 HO370.out) gb424 (Nat.le_of_eq hg.symm)) hb); have n1_ := am_ (Kd.V_below (Kd.V_elderB (zq1 HO374.out) gb424 (Nat.le_of_eq hg.symm)) hb); have n2_ := am_ (Kd.V_below (Kd.V_elderB (zq1 HO389.out) gb424 (Nat.le_of_eq hg.symm)) hb); have n3_ := am_ (Kd.V_below (Kd.V_elderB (zq1 HO393.out) gb424 (Nat.le_of_eq hg.symm)) hb); have n4_ := am_ (Kd.V_below (Kd.V_elderB (zq1 HO408.out) gb424 (Nat.le_of_eq hg.symm)) hb); have n5_ := am_ (Kd.V_below (Kd.V_elderB (zq1 HO422.out) gb424 (Nat.le_of_eq hg.symm)) hb); have n6_ := am_ (blk_below (g := gb376) (o := .cells #[.bool t367, .slice Ao37 t368.length co37] 33 (0, 0)) (zq9 BK376.out) hb); have n7_ := am_ (blk_below (g := gb377) (o := .cells #[.bool t371, .slice Ao39 t372.length co39] 33 (0, 0)) (zq9 BK377.out) hb); have n8_ := am_ (blk_below (g := gb395) (o := .cells #[.bool t386, .slice Ao51 t387.length co51] 33 (0, 0)) (zq9 BK395.out) hb); have n9_ := am_ (blk_below (g := gb396) (o := .cells #[.bool t390, .slice Ao55 t391.length co55] 33 (0, 0)) (zq9 BK396.out) hb); have n10_ := am_ (blk_below (g := gb410) (o := .cells #[.bool t405, .slice Ao67 t406.length co67] 33 (0, 0)) (zq9 BK410.out) hb); have n11_ := am_ (blk_below (g := gb418) (o := .cells #[.bool t413, .slice Ao77 t414.length co77] 33 (0, 0)) (zq9 BK418.out) hb); have n12_ := am_ (below_step zq79 hb); have n13_ := am_ (hbox); have n14_ := am_ ((by rw [hg]; exact (below_size zq79) : w.heap.size ≤ gb424)); have n15_ := am_ ((by rw [hg]; exact Nat.ne_of_lt (blk_lt (g := gb376) (zq9 BK376.out)) : gb376 ≠ gb424)); have n16_ := am_ ((by rw [hg]; exact Nat.ne_of_gt (blk_lt (g := gb376) (zq9 BK376.out)) : gb424 ≠ gb376)); have n17_ := am_ ((by rw [hg]; exact Nat.ne_of_lt (blk_lt (g := gb377) (zq9 BK377.out)) : gb377 ≠ gb424)); have n18_ := am_ ((by rw [hg]; exact Nat.ne_of_gt (blk_lt (g := gb377) (zq9 BK377.out)) : gb424 ≠ gb377)); have n19_ := am_ ((by rw [hg]; exact Nat.ne_of_lt (blk_lt (g := gb395) (zq9 BK395.out)) : gb395 ≠ gb424)); have n20_ := am_ ((by rw [hg]; exact Nat.ne_of_gt (blk_lt (g := gb395) (zq9 BK395.out)) : gb424 ≠ gb395)); have n21_ := am_ ((by rw [hg]; exact Nat.ne_of_lt (blk_lt (g := gb396) (zq9 BK396.out)) : gb396 ≠ gb424)); have n22_ := am_ ((by rw [hg]; exact Nat.ne_of_gt (blk_lt (g := gb396) (zq9 BK396.out)) : gb424 ≠ gb396)); have n23_ := am_ ((by rw [hg]; exact Nat.ne_of_lt (blk_lt (g := gb410) (zq9 BK410.out)) : gb410 ≠ gb424)); have n24_ := am_ ((by rw [hg]; exact Nat.ne_of_gt (blk_lt (g := gb410) (zq9 BK410.out)) : gb424 ≠ gb410)); have n25_ := am_ ((by rw [hg]; exact Nat.ne_of_lt (blk_lt (g := gb418) (zq9 BK418.out)) : gb418 ≠ gb424)); have n26_ := am_ ((by rw [hg]; exact Nat.ne_of_gt (blk_lt (g := gb418) (zq9 BK418.out)) : gb424 ≠ gb418)); clear HO370 HO374 HO389 HO393 HO408 HO422 BK376 BK377 BK395 BK396 BK410 BK418 HB; have HO370 := n0_; have HO374 := n1_; have HO389 := n2_; have HO393 := n3_; have HO408 := n4_; have HO422 := n5_; have BK376 := n6_; have BK377 := n7_; have BK395 := n8_; have BK396 := n9_; have BK410 := n10_; have BK418 := n11_; have HB := n12_; have BK424 := n13_; have GE424 := n14_; have NB376_424 := n15_; have NB424_376 := n16_; have NB377_424 := n17_; have NB424_377 := n18_; have NB395_424 := n19_; have NB424_395 := n20_; have NB396_424 := n21_; have NB424_396 := n22_; have NB410_424 := n23_; have NB424_410 := n24_; have NB418_424 := n25_; have NB424_418 := n26_; clear n0_ n1_ n2_ n3_ n4_ n5_ n6_ n7_ n8_ n9_ n10_ n11_ n12_ n13_ n14_ n15_ n16_ n17_ n18_ n19_ n20_ n21_ n22_ n23_ n24_ n25_ n26_; clear hb hbox hg; have hnb80 := NB424_376.out; have hnc80 := NB376_424.out; have hnb81 := NB424_377.out; have hnc81 := NB377_424.out; have hnb82 := NB424_395.out; have hnc82 := NB395_424.out; have hnb83 := NB424_396.out; have hnc83 := NB396_424.out; have hnb84 := NB424_410.out; have hnc84 := NB410_424.out; have hnb85 := NB424_418.out; have hnc85 := NB418_424.out; have hcz86_0 : w79.cell? ⟨gb424, 0, none⟩ = some (.bool false) := (blk_cell BK424.out 0).trans rfl; have hcz86_1 : w79.cell? ⟨gb424, 1, none⟩ = some (.slice none 0 0) := (blk_cell BK424.out 1).trans rfl; have hfz86_0 := blk_frozen BK424.out 0; have hfz86_1 := blk_frozen BK424.out 1; obtain ⟨Ao87, co87, eo87⟩ := Kd.V_slice HO422.out; subst eo87; have hcz88_0 : w79.cell? ⟨gb376, 0, none⟩ = some (.bool t367) := (blk_cell BK376.out 0).trans rfl; have hcz88_1 : w79.cell? ⟨gb376, 1, none⟩ = some (.slice Ao37 t368.length co37) := (blk_cell BK376.out 1).trans rfl; have hfz88_0 := blk_frozen BK376.out 0; have hfz88_1 := blk_frozen BK376.out 1) | (go_at_call 19; (with_reducible refine (wide_Int_String.calls t367 _ _ t368 t425 _ ?side1 ?side2 A16.out zq80).mono ?_); (case side1 => refine (Kd.V_reads' (e := 81) (base := w.heap.size) (ok := fun k_ => (((((((True ∧ k_ ≠ gb376) ∧ k_ ≠ gb377) ∧ k_ ≠ gb395) ∧ k_ ≠ gb396) ∧ k_ ≠ gb410) ∧ k_ ≠ gb418) ∧ k_ ≠ gb424)) (n := t368.length) (c := co37) ?_).2.2; exact (zq81 HO370.out)); (case side2 => exact (Kd.V_reads' HO370.out).2.1); rintro e w89 ⟨rfl, hb⟩; replace HO374 := am_ (Kd.V_below (zq81 HO374.out) hb); replace HO389 := am_ (Kd.V_below (zq81 HO389.out) hb); replace HO393 := am_ (Kd.V_below (zq81 HO393.out) hb); replace HO408 := am_ (Kd.V_below (zq81 HO408.out) hb); replace BK377 := am_ (blk_below (g := gb377) (o := .cells #[.bool t371, .slice Ao39 t372.length co39] 33 (0, 0)) (by (with_reducible repeat (first | refine blk_drewN ?_ _ | refine blk_drew ?_ | refine blk_alloc ?_ _)); refine blk_far ?_ NB377_424.out _; (with_reducible repeat (first | refine blk_drewN ?_ _ | refine blk_drew ?_ | refine blk_alloc ?_ _)); refine blk_far ?_ NB377_424.out _; (with_reducible repeat (first | refine blk_drewN ?_ _ | refine blk_drew ?_ | refine blk_alloc ?_ _)); exact BK377.out) hb); replace BK395 := am_ (blk_below (g := gb395) (o := .cells #[.bool t386, .slice Ao51 t387.length co51] 33 (0, 0)) (by (with_reducible repeat (first | refine blk_drewN ?_ _ | refine blk_drew ?_ | refine blk_alloc ?_ _)); refine blk_far ?_ NB395_424.out _; (with_reducible repeat (first | refine blk_drewN ?_ _ | refine blk_drew ?_ | refine blk_alloc ?_ _)); refine blk_far ?_ NB395_424.out _; (with_reducible repeat (first | refine blk_drewN ?_ _ | refine blk_drew ?_ | refine blk_alloc ?_ _)); exact BK395.out) hb); replace BK396 := am_ (blk_below (g := gb396) (o := .cells #[.bool t390, .slice Ao55 t391.length co55] 33 (0, 0)) (by (with_reducible repeat (first | refine blk_drewN ?_ _ | refine blk_drew ?_ | refine blk_alloc ?_ _)); refine blk_far ?_ NB396_424.out _; (with_reducible repeat (first | refine blk_drewN ?_ _ | refine blk_drew ?_ | refine blk_alloc ?_ _)); refine blk_far ?_ NB396_424.out _; (with_reducible repeat (first | refine blk_drewN ?_ _ | refine blk_drew ?_ | refine blk_alloc ?_ _)); exact BK396.out) hb); replace BK410 := am_ (blk_below (g := gb410) (o := .cells #[.bool t405, .slice Ao67 t406.length co67] 33 (0, 0)) (by (with_reducible repeat (first | refine blk_drewN ?_ _ | refine blk_drew ?_ | refine blk_alloc ?_ _)); refine blk_far ?_ NB410_424.out _; (with_reducible repeat (first | refine blk_drewN ?_ _ | refine blk_drew ?_ | refine blk_alloc ?_ _)); refine blk_far ?_ NB410_424.out _; (with_reducible repeat (first | refine blk_drewN ?_ _ | refine blk_drew ?_ | refine blk_alloc ?_ _)); exact BK410.out) hb); replace HB := am_ (below_step zq82 hb); (try clear hb); have hcz90_0 : w89.cell? ⟨gb377, 0, none⟩ = some (.bool t371) := (blk_cell BK377.out 0).trans rfl; have hcz90_1 : w89.cell? ⟨gb377, 1, none⟩ = some (.slice Ao39 t372.length co39) := (blk_cell BK377.out 1).trans rfl; have hfz90_0 := blk_frozen BK377.out 0; have hfz90_1 := blk_frozen BK377.out 1) | (go_at_call 19; (with_reducible refine (wide_Int_String.calls t371 _ _ t372 t426 _ ?side1 ?side2 A18.out zq80).mono ?_); (case side1 => exact (zq31 HO374.out)); (case side2 => exact (Kd.V_reads' HO374.out).2.1); rintro e w91 ⟨rfl, hb⟩; replace HO389 := am_ (Kd.V_below (zq1 HO389.out) hb); replace HO393 := am_ (Kd.V_below (zq1 HO393.out) hb); replace HO408 := am_ (Kd.V_below (zq1 HO408.out) hb); replace BK395 := am_ (blk_below (g := gb395) (o := .cells #[.bool t386, .slice Ao51 t387.length co51] 33 (0, 0)) (zq9 BK395.out) hb); replace BK396 := am_ (blk_below (g := gb396) (o := .cells #[.bool t390, .slice Ao55 t391.length co55] 33 (0, 0)) (zq9 BK396.out) hb); replace BK410 := am_ (blk_below (g := gb410) (o := .cells #[.bool t405, .slice Ao67 t406.length co67] 33 (0, 0)) (zq9 BK410.out) hb); replace HB := am_ (below_step zq82 hb); (try clear hb); have hcz92_0 : w91.cell? ⟨gb395, 0, none⟩ = some (.bool t386) := (blk_cell BK395.out 0).trans rfl; have hcz92_1 : w91.cell? ⟨gb395, 1, none⟩ = some (.slice Ao51 t387.length co51) := (blk_cell BK395.out 1).trans rfl; have hfz92_0 := blk_frozen BK395.out 0; have hfz92_1 := blk_frozen BK395.out 1) | (go_at_call 19; (with_reducible refine (wide_Int_String.calls t386 _ _ t387 t427 _ ?side1 ?side2 A20.out zq80).mono ?_); (case side1 => exact (zq31 HO389.out)); (case side2 => exact (Kd.V_reads' HO389.out).2.1); rintro e w93 ⟨rfl, hb⟩; replace HO393 := am_ (Kd.V_below (zq1 HO393.out) hb); replace HO408 := am_ (Kd.V_below (zq1 HO408.out) hb); replace BK396 := am_ (blk_below (g := gb396) (o := .cells #[.bool t390, .slice Ao55 t391.length co55] 33 (0, 0)) (zq9 BK396.out) hb); replace BK410 := am_ (blk_below (g := gb410) (o := .cells #[.bool t405, .slice Ao67 t406.length co67] 33 (0, 0)) (zq9 BK410.out) hb); replace HB := am_ (below_step zq82 hb); (try clear hb); have hcz94_0 : w93.cell? ⟨gb396, 0, none⟩ = some (.bool t390) := (blk_cell BK396.out 0).trans rfl; have hcz94_1 : w93.cell? ⟨gb396, 1, none⟩ = some (.slice Ao55 t391.length co55) := (blk_cell BK396.out 1).trans rfl; have hfz94_0 := blk_frozen BK396.out 0; have hfz94_1 := blk_frozen BK396.out 1) | (go_at_call 19; (with_reducible refine (wide_Int_String.calls t390 _ _ t391 t428 _ ?side1 ?side2 A22.out zq80).mono ?_); (case side1 => exact (zq31 HO393.out)); (case side2 => exact (Kd.V_reads' HO393.out).2.1); rintro e w95 ⟨rfl, hb⟩; replace HO408 := am_ (Kd.V_below (zq1 HO408.out) hb); replace BK410 := am_ (blk_below (g := gb410) (o := .cells #[.bool t405, .slice Ao67 t406.length co67] 33 (0, 0)) (zq9 BK410.out) hb); replace HB := am_ (below_step zq82 hb); (try clear hb); have hcz96_0 : w95.cell? ⟨gb410, 0, none⟩ = some (.bool t405) := (blk_cell BK410.out 0).trans rfl; have hcz96_1 : w95.cell? ⟨gb410, 1, none⟩ = some (.slice Ao67 t406.length co67) := (blk_cell BK410.out 1).trans rfl; have hfz96_0 := blk_frozen BK410.out 0; have hfz96_1 := blk_frozen BK410.out 1) | (go_at_call 19; (with_reducible refine (wide_Int_String.calls t405 _ _ t406 t429 _ ?side1 ?side2 A24.out zq80).mono ?_); (case side1 => exact (zq31 HO408.out)); (case side2 => exact (Kd.V_reads' HO408.out).2.1); rintro e w97 ⟨rfl, hb⟩; replace HB := am_ (below_step zq82 hb); (try clear hb)))
           go_ret
           exact ⟨by first | rfl | (simp [errW_none, errW_some] <;> rfl) | (simp [*, errW_none, errW_some] <;> rfl), by repeat (first | (with_reducible first | exact HB.out | apply below_alloc | apply pw_below_drewN | apply below_drew1 | refine below_set ?_ GE376.out | refine below_set ?_ GE377.out | refine below_set ?_ GE395.out | refine below_set ?_ GE396.out | refine below_set ?_ GE410.out | refine below_set ?_ GE418.out | refine below_set ?_ GE424.out) | exact HB.out)⟩
          ·rw [if_neg c27] at H
           have c27b0 : (t417 == 2) = false := beq_eq_false_iff_ne.mpr c27
           have c27b1 : (t417 != 2) = true := bne_iff_ne.mpr c27
           subst hT_
           cases H
        ·rw [if_neg c25] at H
         have c25b0 : (t429.toList == ([49, 56, 52, 52, 54, 55, 52, 52, 48, 55, 51, 55, 48, 57, 53, 53, 49, 54, 49, 54] : List UInt8)) = false := beq_eq_false_iff_ne.mpr c25
         have c25b1 : (t429.toList != ([49, 56, 52, 52, 54, 55, 52, 52, 48, 55, 51, 55, 48, 57, 53, 53, 49, 54, 49, 54] : List UInt8)) = true := bne_iff_ne.mpr c25
         subst hT_
         cases H
       ·rw [if_neg c23] at H
        have c23b0 : (t428.toList == ([49] : List UInt8)) = false := beq_eq_false_iff_ne.mpr c23
        have c23b1 : (t428.toList != ([49] : List UInt8)) = true := bne_iff_ne.mpr c23
        subst hT_
        cases H
      ·rw [if_neg c21] at H
       have c21b0 : (t427.toList == ([45, 51] : List UInt8)) = false := beq_eq_false_iff_ne.mpr c21
       have c21b1 : (t427.toList != ([45, 51] : List UInt8)) = true := bne_iff_ne.mpr c21
       subst hT_
       cases H
     ·rw [if_neg c19] at H
      have c19b0 : (t426.toList == ([49] : List UInt8)) = false := beq_eq_false_iff_ne.mpr c19
      have c19b1 : (t426.toList != ([49] : List UInt8)) = true := bne_iff_ne.mpr c19
      subst hT_
      cases H
    ·rw [if_neg c17] at H
     have c17b0 : (t425.toList == ([45, 52] : List UInt8)) = false := beq_eq_false_iff_ne.mpr c17
     have c17b1 : (t425.toList != ([45, 52] : List UInt8)) = true := bne_iff_ne.mpr c17
     subst hT_
     cases H
   ·rw [if_neg c15] at H
    have c15b0 : (t409 == 0) = false := beq_eq_false_iff_ne.mpr c15
    have c15b1 : (t409 != 0) = true := bne_iff_ne.mpr c15
    subst hT_
    cases H
  ·rw [if_neg c14] at H
   have c14b0 : (t394 == 0) = false := beq_eq_false_iff_ne.mpr c14
   have c14b1 : (t394 != 0) = true := bne_iff_ne.mpr c14
   subst hT_
   cases H
 ·rw [if_neg c13] at H
  have c13b0 : (t375 == 0) = false := beq_eq_false_iff_ne.mpr c13
  have c13b1 : (t375 != 0) = true := bne_iff_ne.mpr c13
  subst hT_
  cases H

/-! ### worldmintlaw05_wider: function 25 -/
def worldmintlaw05_wider.f (k : Nat) (a0_0 : Bool) (l0_1 : List Int) : Option (Bool × List Int × Bool) := (worldmintref05_Text.f k a0_0 l0_1).bind fun t432 => ((wide_Parse.f k t432).bind fun bt433 => (some (bt433.1, bt433.2.1, (bt433.2.2 == 0))))
theorem worldmintlaw05_wider.mono : ∀ a0 a1 k, LeO (worldmintlaw05_wider.f k a0 a1) (worldmintlaw05_wider.f (k + 1) a0 a1) := by
 intro a0 a1 k
 unfold worldmintlaw05_wider.f
 repeat' first
   | (with_reducible exact wide_Parse.mono _ _)
   | (with_reducible exact worldmintref05_Text.mono _ _ _)
   | (with_reducible exact LeO.refl _)
   | (with_reducible exact LeO.none _)
   | (with_reducible refine LeO.ite ?_ ?_)
   | (with_reducible refine LeO.bind ?_ (fun _ => ?_))
   | exact wide_Parse.mono _ _
   | exact worldmintref05_Text.mono _ _ _
   | exact LeO.none _
   | refine LeO.ite ?_ ?_
   | refine LeO.bind ?_ (fun _ => ?_)
set_option maxHeartbeats 8000000 in
set_option maxRecDepth 100000 in
theorem worldmintlaw05_wider.calls (k : Nat) (a0_0 : Bool) (A0_1 : Option Addr) (c0_1 : Nat) (l0_1 : List Int) (r1 : Bool) (r2 : List Int) (r3 : Bool) (w : World) (hr0_1 : Kd.C (Kd.int .i64) w A0_1 l0_1.length l0_1) (hc0_1 : l0_1.length ≤ c0_1) (h : worldmintlaw05_wider.f k a0_0 l0_1 = some (r1, r2, r3)) :
  Calls Tryz.prog 25 #[.agg #[.bool a0_0, .slice A0_1 l0_1.length c0_1]] w fun e w' => ∃ v1_ : Value, e = .returned (.tuple #[.agg #[.bool r1, v1_], .bool r3]) ∧ Kd.V (Kd.int .u32) 81 w' w.heap.size (fun k_ => (w.heap.size ≤ k_)) v1_ r2 ∧ Below w.heap.size w w' := by
 have hu25 := Tryz.underlying25
 have hu33 := Tryz.underlying33
 have HR0_1 := am_ hr0_1
 have HC0_1 := am_ hc0_1
 clear hr0_1 hc0_1
 have HB := am_ (Below.refl w.heap.size w)
 have H : ((worldmintref05_Text.f k a0_0 l0_1).bind fun t432 => ((wide_Parse.f k t432).bind fun bt433 => (some (bt433.1, bt433.2.1, (bt433.2.2 == 0))))) = some (r1, r2, r3) := h
 clear h
 replace H := Option.bind_eq_some_iff.mp H
 obtain ⟨t432, A20, H⟩ := H
 replace H : ((wide_Parse.f k t432).bind fun bt433 => (some (bt433.1, bt433.2.1, (bt433.2.2 == 0)))) = some (r1, r2, r3) := H
 have A2 := am_ A20
 clear A20
 replace H := Option.bind_eq_some_iff.mp H
 obtain ⟨⟨t433, t434, t437⟩, A30, H⟩ := H
 replace H : (some (t433, t434, (t437 == 0))) = some (r1, r2, r3) := H
 have A3 := am_ A30
 clear A30
 simp only [Option.some.injEq, Prod.mk.injEq] at H
 obtain ⟨rfl, rfl, rfl⟩ := H
 go_enter Tryz.func25, Tryz.ntmps25
 go_wp2_with (first | ((with_reducible refine gate_dst (N := 1) rfl ?_); refine box_event ?hg (N := 1) ?hd (cs := #[.bool a0_0, .slice A0_1 l0_1.length c0_1]) (t := 25) ?hr ?_; (case hd => rfl); (case hg => rfl); (case hr => exact zq0); intro gb430 hg w4 hbox hb; have n0_ := am_ (below_step zq2 hb); have n1_ := am_ (hbox); have n2_ := am_ ((by rw [hg]; exact (below_size zq2) : w.heap.size ≤ gb430)); clear HB; have HB := n0_; have BK430 := n1_; have GE430 := n2_; clear n0_ n1_ n2_; clear hb hbox hg) | ((with_reducible refine gate_dst (N := 2) rfl ?_); refine box_event ?hg (N := 2) ?hd (cs := #[.bool false, .slice none 0 0]) (t := 33) ?hr ?_; (case hd => rfl); (case hg => rfl); (case hr => exact zq0); intro gb431 hg w5 hbox hb; have n0_ := am_ (blk_below (g := gb430) (o := .cells #[.bool a0_0, .slice A0_1 l0_1.length c0_1] 25 (0, 0)) (zq9 BK430.out) hb); have n1_ := am_ (below_step zq83 hb); have n2_ := am_ (hbox); have n3_ := am_ ((by rw [hg]; exact (below_size zq83) : w.heap.size ≤ gb431)); have n4_ := am_ ((by rw [hg]; exact Nat.ne_of_lt (blk_lt (g := gb430) (zq9 BK430.out)) : gb430 ≠ gb431)); have n5_ := am_ ((by rw [hg]; exact Nat.ne_of_gt (blk_lt (g := gb430) (zq9 BK430.out)) : gb431 ≠ gb430)); clear BK430 HB; have BK430 := n0_; have HB := n1_; have BK431 := n2_; have GE431 := n3_; have NB430_431 := n4_; have NB431_430 := n5_; clear n0_ n1_ n2_ n3_ n4_ n5_; clear hb hbox hg; have hnb6 := NB430_431.out; have hnc6 := NB431_430.out; have hcz7_0 : w5.cell? ⟨gb430, 0, none⟩ = some (.bool a0_0) := (blk_cell BK430.out 0).trans rfl; have hcz7_1 : w5.cell? ⟨gb430, 1, none⟩ = some (.slice A0_1 l0_1.length c0_1) := (blk_cell BK430.out 1).trans rfl; have hfz7_0 := blk_frozen BK430.out 0; have hfz7_1 := blk_frozen BK430.out 1) | ((with_reducible refine gate_callee (f := 12) rfl ?_); refine goesL_ (some 8) rfl rfl Tryz.func12 (by kernel_rfl) rfl #[.agg #[.bool a0_0, .slice A0_1 l0_1.length c0_1]] rfl zq6 ?_; (with_reducible refine (worldmintref05_Text.calls k a0_0 _ _ l0_1 t432 _ ?side1 ?side2 A2.out).mono ?_); (case side1 => exact zq24); (case side2 => exact HC0_1.out); rintro e w8 ⟨rfl, hb⟩; refine ⟨_, rfl, ?_⟩; replace BK430 := am_ (blk_below (g := gb430) (o := .cells #[.bool a0_0, .slice A0_1 l0_1.length c0_1] 25 (0, 0)) (zq9 BK430.out) hb); replace BK431 := am_ (blk_below (g := gb431) (o := .cells #[.bool false, .slice none 0 0] 33 (0, 0)) (zq9 BK431.out) hb); replace HB := am_ (below_step zq84 hb); (try clear hb)) | ((with_reducible refine gate_callee (f := 16) rfl ?_); refine goesL_ (some 9) rfl rfl Tryz.func16 (by kernel_rfl) rfl #[.string t432] rfl zq6 ?_; (with_reducible refine (wide_Parse.calls k t432 t433 t434 t437 _ A3.out).mono ?_); rintro e w9 ⟨v435, rfl, ho0, hb⟩; refine ⟨_, rfl, ?_⟩; have HO436 := am_ (Kd.V_lower (Kd.V_mono (ok' := fun k_ => (w.heap.size ≤ k_) ∧ k_ ≠ gb430 ∧ k_ ≠ gb431) ho0 (fun k_ hk_ => ⟨(Nat.le_trans (below_size zq84) hk_), (Kd.freshB (g := gb430) (o := .cells #[.bool a0_0, .slice A0_1 l0_1.length c0_1] 25 (0, 0)) (zq9 BK430.out) k_ hk_), (Kd.freshB (g := gb431) (o := .cells #[.bool false, .slice none 0 0] 33 (0, 0)) (zq9 BK431.out) k_ hk_)⟩)) (below_size zq84)); replace BK430 := am_ (blk_below (g := gb430) (o := .cells #[.bool a0_0, .slice A0_1 l0_1.length c0_1] 25 (0, 0)) (zq9 BK430.out) hb); replace BK431 := am_ (blk_below (g := gb431) (o := .cells #[.bool false, .slice none 0 0] 33 (0, 0)) (zq9 BK431.out) hb); replace HB := am_ (below_step zq84 hb); (try clear hb); (try clear ho0)) | ((with_reducible refine gate_dst (N := 4) rfl ?_); refine box_event ?hg (N := 4) ?hd (cs := #[.bool false, .slice none 0 0]) (t := 33) ?hr ?_; (case hd => rfl); (case hg => rfl); (case hr => exact zq0); intro gb438 hg w10 hbox hb; have n0_ := am_ (Kd.V_below (Kd.V_elderB (zq1 HO436.out) gb438 (Nat.le_of_eq hg.symm)) hb); have n1_ := am_ (blk_below (g := gb430) (o := .cells #[.bool a0_0, .slice A0_1 l0_1.length c0_1] 25 (0, 0)) (zq9 BK430.out) hb); have n2_ := am_ (blk_below (g := gb431) (o := .cells #[.bool false, .slice none 0 0] 33 (0, 0)) (zq9 BK431.out) hb); have n3_ := am_ (below_step zq84 hb); have n4_ := am_ (hbox); have n5_ := am_ ((by rw [hg]; exact (below_size zq84) : w.heap.size ≤ gb438)); have n6_ := am_ ((by rw [hg]; exact Nat.ne_of_lt (blk_lt (g := gb430) (zq9 BK430.out)) : gb430 ≠ gb438)); have n7_ := am_ ((by rw [hg]; exact Nat.ne_of_gt (blk_lt (g := gb430) (zq9 BK430.out)) : gb438 ≠ gb430)); have n8_ := am_ ((by rw [hg]; exact Nat.ne_of_lt (blk_lt (g := gb431) (zq9 BK431.out)) : gb431 ≠ gb438)); have n9_ := am_ ((by rw [hg]; exact Nat.ne_of_gt (blk_lt (g := gb431) (zq9 BK431.out)) : gb438 ≠ gb431)); clear HO436 BK430 BK431 HB; have HO436 := n0_; have BK430 := n1_; have BK431 := n2_; have HB := n3_; have BK438 := n4_; have GE438 := n5_; have NB430_438 := n6_; have NB438_430 := n7_; have NB431_438 := n8_; have NB438_431 := n9_; clear n0_ n1_ n2_ n3_ n4_ n5_ n6_ n7_ n8_ n9_; clear hb hbox hg; have hnb11 := NB438_430.out; have hnc11 := NB430_438.out; have hnb12 := NB438_431.out; have hnc12 := NB431_438.out; have hcz13_0 : w10.cell? ⟨gb438, 0, none⟩ = some (.bool false) := (blk_cell BK438.out 0).trans rfl; have hcz13_1 : w10.cell? ⟨gb438, 1, none⟩ = some (.slice none 0 0) := (blk_cell BK438.out 1).trans rfl; have hfz13_0 := blk_frozen BK438.out 0; have hfz13_1 := blk_frozen BK438.out 1; obtain ⟨Ao14, co14, eo14⟩ := Kd.V_slice HO436.out; subst eo14; have hcz15_0 : w10.cell? ⟨gb431, 0, none⟩ = some (.bool false) := (blk_cell BK431.out 0).trans rfl; have hcz15_1 : w10.cell? ⟨gb431, 1, none⟩ = some (.slice none 0 0) := (blk_cell BK431.out 1).trans rfl; have hfz15_0 := blk_frozen BK431.out 0; have hfz15_1 := blk_frozen BK431.out 1))
 refine bodyPost_ret (results_ct rfl _ _ gb431 33 #[.bool t433, .slice Ao14 t434.length co14] (0, 0) _ rfl (by (with_reducible repeat (first | refine blk_drewN ?_ _ | refine blk_drew ?_ | refine blk_alloc ?_ _)); refine blk_put (cs := #[.bool t433, .slice none 0 0]) ?_ 1 _ rfl; (with_reducible repeat (first | refine blk_drewN ?_ _ | refine blk_drew ?_ | refine blk_alloc ?_ _)); refine blk_put (cs := #[.bool false, .slice none 0 0]) ?_ 0 _ rfl; (with_reducible repeat (first | refine blk_drewN ?_ _ | refine blk_drew ?_ | refine blk_alloc ?_ _)); refine blk_far ?_ NB431_438.out _; (with_reducible repeat (first | refine blk_drewN ?_ _ | refine blk_drew ?_ | refine blk_alloc ?_ _)); refine blk_far ?_ NB431_438.out _; (with_reducible repeat (first | refine blk_drewN ?_ _ | refine blk_drew ?_ | refine blk_alloc ?_ _)); exact BK431.out) Tryz.underlying33 rfl (by kernel_rfl)) rfl ?_
 exact ⟨_, by first | rfl | (simp [errW_none, errW_some] <;> rfl) | (simp [*, errW_none, errW_some] <;> rfl), by (with_reducible repeat (first | apply Kd.V_alloc | apply Kd.V_drewN | apply Kd.V_drew)); exact Kd.V_mono (Kd.V_far (p := ⟨gb431, 1, none⟩) (Kd.V_far (p := ⟨gb431, 0, none⟩) (Kd.V_far (p := ⟨gb438, 1, none⟩) (Kd.V_far (p := ⟨gb438, 0, none⟩) (Kd.V_mono (Kd.V_mono HO436.out (fun k_ hk => (⟨hk, hk.2⟩ : _ ∧ k_ ≠ gb438))) (fun k_ hk => (⟨hk, hk.1.1.2.2⟩ : _ ∧ k_ ≠ gb431))) (fun _ hk => hk.1.2) (.bool t433)) (fun _ hk => hk.1.2) (.slice Ao14 t434.length co14)) (fun _ hk => hk.2) (.bool t433)) (fun _ hk => hk.2) (.slice Ao14 t434.length co14)) (fun _ hk => hk.1.1.1.1), by repeat (first | (with_reducible first | exact HB.out | apply below_alloc | apply pw_below_drewN | apply below_drew1 | refine below_set ?_ GE430.out | refine below_set ?_ GE431.out | refine below_set ?_ GE438.out) | exact HB.out)⟩

/-! ### worldmintref01_Bound: function 35 -/
def worldmintref01_Bound.f (a0 : Int) (a1 : Int) : Option (Int) := (worldmintref01_Around.f a0 (wrap64 ((wrap64 (2 * a1)) + 1))).bind fun t439 => (some (wrap64 (t439 - a1)))
set_option maxHeartbeats 8000000 in
set_option maxRecDepth 100000 in
theorem worldmintref01_Bound.calls (a0 : Int) (a1 : Int) (r : Int) (w : World) (h : worldmintref01_Bound.f a0 a1 = some r) :
  Calls Tryz.prog 35 #[.int .i64 a0, .int .i64 a1] w fun e w' => e = .returned (.int .i64 r) ∧ Drawn0 w w' := by
 have H : ((worldmintref01_Around.f a0 (wrap64 ((wrap64 (2 * a1)) + 1))).bind fun t439 => (some (wrap64 (t439 - a1)))) = some r := h
 clear h
 replace H := Option.bind_eq_some_iff.mp H
 obtain ⟨t439, A30, H⟩ := H
 replace H : (some (wrap64 (t439 - a1))) = some r := H
 have A3 := am_ A30
 clear A30
 obtain rfl := Option.some.inj H
 go_enter Tryz.func35, Tryz.ntmps35
 go_wp2_with (first | ((with_reducible refine gate_callee (f := 14) rfl ?_); refine goesL_ (some 9) rfl rfl Tryz.func14 (by kernel_rfl) rfl #[.int .i64 a0, .int .i64 (wrap64 ((wrap64 (2 * a1)) + 1))] rfl zq6 ?_; (with_reducible refine (worldmintref01_Around.calls a0 (wrap64 ((wrap64 (2 * a1)) + 1)) t439 _ A3.out).mono ?_); rintro e w' ⟨rfl, ⟨nd, rfl⟩⟩; refine ⟨_, rfl, ?_⟩))
 go_ret
 exact ⟨by first | rfl | (simp; done) | (simp [*]; done), by repeat (first | exact Drawn0.refl _ | apply Drawn0.step)⟩

/-! ### worldmintref05_Neg: function 36 -/
def worldmintref05_Neg.f (k : Nat) (a0_0 : Bool) (l0_1 : List Int) : Option (Bool × List Int) := (worldmintref05_normal.f k (!a0_0) l0_1).bind fun bt442 => (some (bt442.1, bt442.2))
theorem worldmintref05_Neg.mono : ∀ a0 a1 k, LeO (worldmintref05_Neg.f k a0 a1) (worldmintref05_Neg.f (k + 1) a0 a1) := by
 intro a0 a1 k
 unfold worldmintref05_Neg.f
 repeat' first
   | (with_reducible exact worldmintref05_normal.mono _ _ _)
   | (with_reducible exact LeO.refl _)
   | (with_reducible exact LeO.none _)
   | (with_reducible refine LeO.ite ?_ ?_)
   | (with_reducible refine LeO.bind ?_ (fun _ => ?_))
   | exact worldmintref05_normal.mono _ _ _
   | exact LeO.none _
   | refine LeO.ite ?_ ?_
   | refine LeO.bind ?_ (fun _ => ?_)
set_option maxHeartbeats 8000000 in
set_option maxRecDepth 100000 in
theorem worldmintref05_Neg.calls (k : Nat) (a0_0 : Bool) (P0_1_ : Nat → Prop) (A0_1 : Option Addr) (c0_1 : Nat) (l0_1 : List Int) (r1 : Bool) (r2 : List Int) (w : World) (hs0_1 : Kd.V (Kd.int .i64) 3 w w.heap.size (fun k_ => P0_1_ k_) (.slice A0_1 l0_1.length c0_1) l0_1) (h : worldmintref05_Neg.f k a0_0 l0_1 = some (r1, r2)) :
  Calls Tryz.prog 36 #[.agg #[.bool a0_0, .slice A0_1 l0_1.length c0_1]] w fun e w' => ∃ v1_ : Value, e = .returned (.agg #[.bool r1, v1_]) ∧ Kd.V (Kd.int .i64) 3 w' w.heap.size (fun k_ => (P0_1_ k_ ∨ w.heap.size ≤ k_)) v1_ r2 ∧ Below w.heap.size w w' := by
 have hu25 := Tryz.underlying25
 have HO0_1 := am_ (show Kd.V (Kd.int .i64) 3 w w.heap.size (fun k_ => (P0_1_ k_ ∨ w.heap.size ≤ k_)) (.slice A0_1 l0_1.length c0_1) l0_1 from Kd.V_mono hs0_1 (fun k_ hk => .inl hk))
 have HB := am_ (Below.refl w.heap.size w)
 have H : ((worldmintref05_normal.f k (!a0_0) l0_1).bind fun bt442 => (some (bt442.1, bt442.2))) = some (r1, r2) := h
 clear h
 replace H := Option.bind_eq_some_iff.mp H
 obtain ⟨⟨t442, t443⟩, A20, H⟩ := H
 replace H : (some (t442, t443)) = some (r1, r2) := H
 have A2 := am_ A20
 clear A20
 simp only [Option.some.injEq, Prod.mk.injEq] at H
 obtain ⟨rfl, rfl⟩ := H
 go_enter Tryz.func36, Tryz.ntmps36
 go_wp2_with (first | ((with_reducible refine gate_dst (N := 1) rfl ?_); refine box_event ?hg (N := 1) ?hd (cs := #[.bool a0_0, .slice A0_1 l0_1.length c0_1]) (t := 25) ?hr ?_; (case hd => rfl); (case hg => rfl); (case hr => exact zq0); intro gb440 hg w3 hbox hb; have n0_ := am_ (Kd.V_below (Kd.V_elderB (zq1 HO0_1.out) gb440 (Nat.le_of_eq hg.symm)) hb); have n1_ := am_ (below_step zq2 hb); have n2_ := am_ (hbox); have n3_ := am_ ((by rw [hg]; exact (below_size zq2) : w.heap.size ≤ gb440)); clear HO0_1 HB; have HO0_1 := n0_; have HB := n1_; have BK440 := n2_; have GE440 := n3_; clear n0_ n1_ n2_ n3_; clear hb hbox hg) | ((with_reducible refine gate_dst (N := 2) rfl ?_); refine box_event ?hg (N := 2) ?hd (cs := #[.bool false, .slice none 0 0]) (t := 25) ?hr ?_; (case hd => rfl); (case hg => rfl); (case hr => exact zq0); intro gb441 hg w4 hbox hb; have n0_ := am_ (Kd.V_below (Kd.V_elderB (zq1 HO0_1.out) gb441 (Nat.le_of_eq hg.symm)) hb); have n1_ := am_ (blk_below (g := gb440) (o := .cells #[.bool a0_0, .slice A0_1 l0_1.length c0_1] 25 (0, 0)) (zq9 BK440.out) hb); have n2_ := am_ (below_step zq85 hb); have n3_ := am_ (hbox); have n4_ := am_ ((by rw [hg]; exact (below_size zq85) : w.heap.size ≤ gb441)); have n5_ := am_ ((by rw [hg]; exact Nat.ne_of_lt (blk_lt (g := gb440) (zq9 BK440.out)) : gb440 ≠ gb441)); have n6_ := am_ ((by rw [hg]; exact Nat.ne_of_gt (blk_lt (g := gb440) (zq9 BK440.out)) : gb441 ≠ gb440)); clear HO0_1 BK440 HB; have HO0_1 := n0_; have BK440 := n1_; have HB := n2_; have BK441 := n3_; have GE441 := n4_; have NB440_441 := n5_; have NB441_440 := n6_; clear n0_ n1_ n2_ n3_ n4_ n5_ n6_; clear hb hbox hg; have hnb5 := NB440_441.out; have hnc5 := NB441_440.out; have hcz6_0 : w4.cell? ⟨gb440, 0, none⟩ = some (.bool a0_0) := (blk_cell BK440.out 0).trans rfl; have hcz6_1 : w4.cell? ⟨gb440, 1, none⟩ = some (.slice A0_1 l0_1.length c0_1) := (blk_cell BK440.out 1).trans rfl; have hfz6_0 := blk_frozen BK440.out 0; have hfz6_1 := blk_frozen BK440.out 1) | ((with_reducible refine gate_callee (f := 54) rfl ?_); refine goesL_ (some 8) rfl rfl Tryz.func54 (by kernel_rfl) rfl #[.bool (!a0_0), .slice A0_1 l0_1.length c0_1] rfl zq6 ?_; (with_reducible refine (worldmintref05_normal.calls k (!a0_0) (fun k_ => (((P0_1_ k_ ∨ w.heap.size ≤ k_) ∧ k_ ≠ gb440) ∧ k_ ≠ gb441)) _ _ l0_1 t442 t443 _ ?side1 A2.out).mono ?_); (case side1 => exact HO0_1.out); rintro e w7 ⟨v444, rfl, ho0, hb⟩; refine ⟨_, rfl, ?_⟩; have HO445 := am_ (Kd.V_lower (Kd.V_mono (ok' := fun k_ => (P0_1_ k_ ∨ w.heap.size ≤ k_) ∧ k_ ≠ gb440 ∧ k_ ≠ gb441) ho0 (fun k_ hk_ => ⟨Or.elim hk_ (fun hs_ => hs_.1.1) (fun hn_ => (.inr (Nat.le_trans (below_size zq86) hn_))), Or.elim hk_ (fun hs_ => hs_.1.2) (fun hn_ => (Kd.freshB (g := gb440) (o := .cells #[.bool a0_0, .slice A0_1 l0_1.length c0_1] 25 (0, 0)) (zq9 BK440.out) k_ hn_)), Or.elim hk_ (fun hs_ => hs_.2) (fun hn_ => (Kd.freshB (g := gb441) (o := .cells #[.bool false, .slice none 0 0] 25 (0, 0)) (zq9 BK441.out) k_ hn_))⟩)) (below_size zq86)); replace BK440 := am_ (blk_below (g := gb440) (o := .cells #[.bool a0_0, .slice A0_1 l0_1.length c0_1] 25 (0, 0)) (zq9 BK440.out) hb); replace BK441 := am_ (blk_below (g := gb441) (o := .cells #[.bool false, .slice none 0 0] 25 (0, 0)) (zq9 BK441.out) hb); replace HB := am_ (below_step zq86 hb); (try clear hb); (try clear ho0); have hcz8_0 : w7.cell? ⟨gb441, 0, none⟩ = some (.bool false) := (blk_cell BK441.out 0).trans rfl; have hcz8_1 : w7.cell? ⟨gb441, 1, none⟩ = some (.slice none 0 0) := (blk_cell BK441.out 1).trans rfl; have hfz8_0 := blk_frozen BK441.out 0; have hfz8_1 := blk_frozen BK441.out 1; obtain ⟨Ao9, co9, eo9⟩ := Kd.V_slice HO445.out; subst eo9))
 refine bodyPost_ret (results_cell_row rfl _ _ gb441 25 #[.bool t442, .slice Ao9 t443.length co9] (0, 0) _ rfl (by (with_reducible repeat (first | refine blk_drewN ?_ _ | refine blk_drew ?_ | refine blk_alloc ?_ _)); refine blk_put (cs := #[.bool t442, .slice none 0 0]) ?_ 1 _ rfl; (with_reducible repeat (first | refine blk_drewN ?_ _ | refine blk_drew ?_ | refine blk_alloc ?_ _)); refine blk_put (cs := #[.bool false, .slice none 0 0]) ?_ 0 _ rfl; (with_reducible repeat (first | refine blk_drewN ?_ _ | refine blk_drew ?_ | refine blk_alloc ?_ _)); exact BK441.out) Tryz.underlying25 rfl (by kernel_rfl)) rfl ?_
 exact ⟨_, by first | rfl | (simp [errW_none, errW_some] <;> rfl) | (simp [*, errW_none, errW_some] <;> rfl), by (with_reducible repeat (first | apply Kd.V_alloc | apply Kd.V_drewN | apply Kd.V_drew)); exact Kd.V_mono (Kd.V_far (p := ⟨gb441, 1, none⟩) (Kd.V_far (p := ⟨gb441, 0, none⟩) (Kd.V_mono HO445.out (fun k_ hk => (⟨hk, hk.2.2⟩ : _ ∧ k_ ≠ gb441))) (fun _ hk => hk.2) (.bool t442)) (fun _ hk => hk.2) (.slice Ao9 t443.length co9)) (fun _ hk => hk.1.1), by repeat (first | (with_reducible first | exact HB.out | apply below_alloc | apply pw_below_drewN | apply below_drew1 | refine below_set ?_ GE440.out | refine below_set ?_ GE441.out) | exact HB.out)⟩

/-! ### cmp_isNaN_int: function 110 -/
def cmp_isNaN_int.f (a0 : Int) : Option (Bool) := some (a0 != a0)
set_option maxHeartbeats 8000000 in
set_option maxRecDepth 100000 in
theorem cmp_isNaN_int.calls (a0 : Int) (r : Bool) (w : World) (h : cmp_isNaN_int.f a0 = some r) :
  Calls Tryz.prog 110 #[.int .i64 a0] w fun e w' => e = .returned (.bool r) ∧ Drawn0 w w' := by
 have H : (some (a0 != a0)) = some r := h
 clear h
 obtain rfl := Option.some.inj H
 go_enter Tryz.func110, Tryz.ntmps110
 go_wp2
 go_ret
 exact ⟨by first | rfl | (simp; done) | (simp [*]; done), by repeat (first | exact Drawn0.refl _ | apply Drawn0.step)⟩

/-! ### cmp_Compare_int: function 91 -/
def cmp_Compare_int.f (a0 : Int) (a1 : Int) : Option (Int) := (cmp_isNaN_int.f a0).bind fun t446 => ((cmp_isNaN_int.f a1).bind fun t447 => (if t446 = true then (if t447 = true then (some 0) else (some (-1))) else (if t447 = true then (some 1) else (if a0 < a1 then (some (-1)) else (if a0 > a1 then (some 1) else (some 0))))))
set_option maxHeartbeats 8000000 in
set_option maxRecDepth 100000 in
theorem cmp_Compare_int.calls (a0 : Int) (a1 : Int) (r : Int) (w : World) (h : cmp_Compare_int.f a0 a1 = some r) :
  Calls Tryz.prog 91 #[.int .i64 a0, .int .i64 a1] w fun e w' => e = .returned (.int .i64 r) ∧ Drawn0 w w' := by
 have H : ((cmp_isNaN_int.f a0).bind fun t446 => ((cmp_isNaN_int.f a1).bind fun t447 => (if t446 = true then (if t447 = true then (some 0) else (some (-1))) else (if t447 = true then (some 1) else (if a0 < a1 then (some (-1)) else (if a0 > a1 then (some 1) else (some 0))))))) = some r := h
 clear h
 replace H := Option.bind_eq_some_iff.mp H
 obtain ⟨t446, A30, H⟩ := H
 replace H : ((cmp_isNaN_int.f a1).bind fun t447 => (if t446 = true then (if t447 = true then (some 0) else (some (-1))) else (if t447 = true then (some 1) else (if a0 < a1 then (some (-1)) else (if a0 > a1 then (some 1) else (some 0)))))) = some r := H
 have A3 := am_ A30
 clear A30
 replace H := Option.bind_eq_some_iff.mp H
 obtain ⟨t447, A40, H⟩ := H
 replace H : (if t446 = true then (if t447 = true then (some 0) else (some (-1))) else (if t447 = true then (some 1) else (if a0 < a1 then (some (-1)) else (if a0 > a1 then (some 1) else (some 0))))) = some r := H
 have A4 := am_ A40
 clear A40
 by_cases c5 : t446 = true
 ·subst c5
  have H1 : (if t447 = true then (some 0) else (some (-1))) = some r := by rw [if_pos rfl] at H; exact H
  clear H
  have H := H1
  clear H1
  by_cases c6 : t447 = true
  ·subst c6
   have H1 : (some 0) = some r := by rw [if_pos rfl] at H; exact H
   clear H
   have H := H1
   clear H1
   obtain rfl := Option.some.inj H
   go_enter Tryz.func91, Tryz.ntmps91
   go_wp2_with (first | ((with_reducible refine gate_callee (f := 110) rfl ?_); refine goesL_ (some 8) rfl rfl Tryz.func110 (by kernel_rfl) rfl #[.int .i64 a0] rfl zq6 ?_; (with_reducible refine (cmp_isNaN_int.calls a0 true _ A3.out).mono ?_); rintro e w' ⟨rfl, ⟨nd, rfl⟩⟩; refine ⟨_, rfl, ?_⟩) | ((with_reducible refine gate_callee (f := 110) rfl ?_); refine goesL_ (some 10) rfl rfl Tryz.func110 (by kernel_rfl) rfl #[.int .i64 a1] rfl zq6 ?_; (with_reducible refine (cmp_isNaN_int.calls a1 true _ A4.out).mono ?_); rintro e w' ⟨rfl, ⟨nd, rfl⟩⟩; refine ⟨_, rfl, ?_⟩))
   go_ret
   exact ⟨by first | rfl | (simp; done) | (simp [*]; done), by repeat (first | exact Drawn0.refl _ | apply Drawn0.step)⟩
  ·replace c6 := Bool.eq_false_iff.mpr c6
   subst c6
   have H1 : (some (-1)) = some r := by rw [if_neg (show ¬ (false = true) by decide)] at H; exact H
   clear H
   have H := H1
   clear H1
   obtain rfl := Option.some.inj H
   go_enter Tryz.func91, Tryz.ntmps91
   go_wp2_with (first | ((with_reducible refine gate_callee (f := 110) rfl ?_); refine goesL_ (some 8) rfl rfl Tryz.func110 (by kernel_rfl) rfl #[.int .i64 a0] rfl zq6 ?_; (with_reducible refine (cmp_isNaN_int.calls a0 true _ A3.out).mono ?_); rintro e w' ⟨rfl, ⟨nd, rfl⟩⟩; refine ⟨_, rfl, ?_⟩) | ((with_reducible refine gate_callee (f := 110) rfl ?_); refine goesL_ (some 10) rfl rfl Tryz.func110 (by kernel_rfl) rfl #[.int .i64 a1] rfl zq6 ?_; (with_reducible refine (cmp_isNaN_int.calls a1 false _ A4.out).mono ?_); rintro e w' ⟨rfl, ⟨nd, rfl⟩⟩; refine ⟨_, rfl, ?_⟩))
   go_ret
   exact ⟨by first | rfl | (simp; done) | (simp [*]; done), by repeat (first | exact Drawn0.refl _ | apply Drawn0.step)⟩
 ·replace c5 := Bool.eq_false_iff.mpr c5
  subst c5
  have H1 : (if t447 = true then (some 1) else (if a0 < a1 then (some (-1)) else (if a0 > a1 then (some 1) else (some 0)))) = some r := by rw [if_neg (show ¬ (false = true) by decide)] at H; exact H
  clear H
  have H := H1
  clear H1
  by_cases c7 : t447 = true
  ·subst c7
   have H1 : (some 1) = some r := by rw [if_pos rfl] at H; exact H
   clear H
   have H := H1
   clear H1
   obtain rfl := Option.some.inj H
   go_enter Tryz.func91, Tryz.ntmps91
   go_wp2_with (first | ((with_reducible refine gate_callee (f := 110) rfl ?_); refine goesL_ (some 8) rfl rfl Tryz.func110 (by kernel_rfl) rfl #[.int .i64 a0] rfl zq6 ?_; (with_reducible refine (cmp_isNaN_int.calls a0 false _ A3.out).mono ?_); rintro e w' ⟨rfl, ⟨nd, rfl⟩⟩; refine ⟨_, rfl, ?_⟩) | ((with_reducible refine gate_callee (f := 110) rfl ?_); refine goesL_ (some 10) rfl rfl Tryz.func110 (by kernel_rfl) rfl #[.int .i64 a1] rfl zq6 ?_; (with_reducible refine (cmp_isNaN_int.calls a1 true _ A4.out).mono ?_); rintro e w' ⟨rfl, ⟨nd, rfl⟩⟩; refine ⟨_, rfl, ?_⟩))
   go_ret
   exact ⟨by first | rfl | (simp; done) | (simp [*]; done), by repeat (first | exact Drawn0.refl _ | apply Drawn0.step)⟩
  ·replace c7 := Bool.eq_false_iff.mpr c7
   subst c7
   have H1 : (if a0 < a1 then (some (-1)) else (if a0 > a1 then (some 1) else (some 0))) = some r := by rw [if_neg (show ¬ (false = true) by decide)] at H; exact H
   clear H
   have H := H1
   clear H1
   by_cases c8 : a0 < a1
   ·rw [if_pos c8] at H
    have c8b0 : decide (a0 < a1) = true := decide_eq_true c8
    clear c8
    obtain rfl := Option.some.inj H
    go_enter Tryz.func91, Tryz.ntmps91
    go_wp2_with (first | ((with_reducible refine gate_callee (f := 110) rfl ?_); refine goesL_ (some 8) rfl rfl Tryz.func110 (by kernel_rfl) rfl #[.int .i64 a0] rfl zq6 ?_; (with_reducible refine (cmp_isNaN_int.calls a0 false _ A3.out).mono ?_); rintro e w' ⟨rfl, ⟨nd, rfl⟩⟩; refine ⟨_, rfl, ?_⟩) | ((with_reducible refine gate_callee (f := 110) rfl ?_); refine goesL_ (some 10) rfl rfl Tryz.func110 (by kernel_rfl) rfl #[.int .i64 a1] rfl zq6 ?_; (with_reducible refine (cmp_isNaN_int.calls a1 false _ A4.out).mono ?_); rintro e w' ⟨rfl, ⟨nd, rfl⟩⟩; refine ⟨_, rfl, ?_⟩))
    go_ret
    exact ⟨by first | rfl | (simp; done) | (simp [*]; done), by repeat (first | exact Drawn0.refl _ | apply Drawn0.step)⟩
   ·rw [if_neg c8] at H
    have c8b0 : decide (a0 < a1) = false := decide_eq_false c8
    clear c8
    by_cases c9 : a0 > a1
    ·rw [if_pos c9] at H
     have c9b0 : decide (a1 < a0) = true := decide_eq_true c9
     clear c9
     obtain rfl := Option.some.inj H
     go_enter Tryz.func91, Tryz.ntmps91
     go_wp2_with (first | ((with_reducible refine gate_callee (f := 110) rfl ?_); refine goesL_ (some 8) rfl rfl Tryz.func110 (by kernel_rfl) rfl #[.int .i64 a0] rfl zq6 ?_; (with_reducible refine (cmp_isNaN_int.calls a0 false _ A3.out).mono ?_); rintro e w' ⟨rfl, ⟨nd, rfl⟩⟩; refine ⟨_, rfl, ?_⟩) | ((with_reducible refine gate_callee (f := 110) rfl ?_); refine goesL_ (some 10) rfl rfl Tryz.func110 (by kernel_rfl) rfl #[.int .i64 a1] rfl zq6 ?_; (with_reducible refine (cmp_isNaN_int.calls a1 false _ A4.out).mono ?_); rintro e w' ⟨rfl, ⟨nd, rfl⟩⟩; refine ⟨_, rfl, ?_⟩))
     go_ret
     exact ⟨by first | rfl | (simp; done) | (simp [*]; done), by repeat (first | exact Drawn0.refl _ | apply Drawn0.step)⟩
    ·rw [if_neg c9] at H
     have c9b0 : decide (a1 < a0) = false := decide_eq_false c9
     clear c9
     obtain rfl := Option.some.inj H
     go_enter Tryz.func91, Tryz.ntmps91
     go_wp2_with (first | ((with_reducible refine gate_callee (f := 110) rfl ?_); refine goesL_ (some 8) rfl rfl Tryz.func110 (by kernel_rfl) rfl #[.int .i64 a0] rfl zq6 ?_; (with_reducible refine (cmp_isNaN_int.calls a0 false _ A3.out).mono ?_); rintro e w' ⟨rfl, ⟨nd, rfl⟩⟩; refine ⟨_, rfl, ?_⟩) | ((with_reducible refine gate_callee (f := 110) rfl ?_); refine goesL_ (some 10) rfl rfl Tryz.func110 (by kernel_rfl) rfl #[.int .i64 a1] rfl zq6 ?_; (with_reducible refine (cmp_isNaN_int.calls a1 false _ A4.out).mono ?_); rintro e w' ⟨rfl, ⟨nd, rfl⟩⟩; refine ⟨_, rfl, ?_⟩))
     go_ret
     exact ⟨by first | rfl | (simp; done) | (simp [*]; done), by repeat (first | exact Drawn0.refl _ | apply Drawn0.step)⟩

/-! ### cmp_isNaN_uint32: function 111 -/
def cmp_isNaN_uint32.f (a0 : Int) : Option (Bool) := some (a0 != a0)
set_option maxHeartbeats 8000000 in
set_option maxRecDepth 100000 in
theorem cmp_isNaN_uint32.calls (a0 : Int) (r : Bool) (w : World) (h : cmp_isNaN_uint32.f a0 = some r) :
  Calls Tryz.prog 111 #[.int .u32 a0] w fun e w' => e = .returned (.bool r) ∧ Drawn0 w w' := by
 have H : (some (a0 != a0)) = some r := h
 clear h
 obtain rfl := Option.some.inj H
 go_enter Tryz.func111, Tryz.ntmps111
 go_wp2
 go_ret
 exact ⟨by first | rfl | (simp; done) | (simp [*]; done), by repeat (first | exact Drawn0.refl _ | apply Drawn0.step)⟩

/-! ### cmp_Compare_uint32: function 92 -/
def cmp_Compare_uint32.f (a0 : Int) (a1 : Int) : Option (Int) := (cmp_isNaN_uint32.f a0).bind fun t448 => ((cmp_isNaN_uint32.f a1).bind fun t449 => (if t448 = true then (if t449 = true then (some 0) else (some (-1))) else (if t449 = true then (some 1) else (if a0 < a1 then (some (-1)) else (if a0 > a1 then (some 1) else (some 0))))))
set_option maxHeartbeats 8000000 in
set_option maxRecDepth 100000 in
theorem cmp_Compare_uint32.calls (a0 : Int) (a1 : Int) (r : Int) (w : World) (h : cmp_Compare_uint32.f a0 a1 = some r) :
  Calls Tryz.prog 92 #[.int .u32 a0, .int .u32 a1] w fun e w' => e = .returned (.int .i64 r) ∧ Drawn0 w w' := by
 have H : ((cmp_isNaN_uint32.f a0).bind fun t448 => ((cmp_isNaN_uint32.f a1).bind fun t449 => (if t448 = true then (if t449 = true then (some 0) else (some (-1))) else (if t449 = true then (some 1) else (if a0 < a1 then (some (-1)) else (if a0 > a1 then (some 1) else (some 0))))))) = some r := h
 clear h
 replace H := Option.bind_eq_some_iff.mp H
 obtain ⟨t448, A30, H⟩ := H
 replace H : ((cmp_isNaN_uint32.f a1).bind fun t449 => (if t448 = true then (if t449 = true then (some 0) else (some (-1))) else (if t449 = true then (some 1) else (if a0 < a1 then (some (-1)) else (if a0 > a1 then (some 1) else (some 0)))))) = some r := H
 have A3 := am_ A30
 clear A30
 replace H := Option.bind_eq_some_iff.mp H
 obtain ⟨t449, A40, H⟩ := H
 replace H : (if t448 = true then (if t449 = true then (some 0) else (some (-1))) else (if t449 = true then (some 1) else (if a0 < a1 then (some (-1)) else (if a0 > a1 then (some 1) else (some 0))))) = some r := H
 have A4 := am_ A40
 clear A40
 by_cases c5 : t448 = true
 ·subst c5
  have H1 : (if t449 = true then (some 0) else (some (-1))) = some r := by rw [if_pos rfl] at H; exact H
  clear H
  have H := H1
  clear H1
  by_cases c6 : t449 = true
  ·subst c6
   have H1 : (some 0) = some r := by rw [if_pos rfl] at H; exact H
   clear H
   have H := H1
   clear H1
   obtain rfl := Option.some.inj H
   go_enter Tryz.func92, Tryz.ntmps92
   go_wp2_with (first | ((with_reducible refine gate_callee (f := 111) rfl ?_); refine goesL_ (some 8) rfl rfl Tryz.func111 (by kernel_rfl) rfl #[.int .u32 a0] rfl zq6 ?_; (with_reducible refine (cmp_isNaN_uint32.calls a0 true _ A3.out).mono ?_); rintro e w' ⟨rfl, ⟨nd, rfl⟩⟩; refine ⟨_, rfl, ?_⟩) | ((with_reducible refine gate_callee (f := 111) rfl ?_); refine goesL_ (some 10) rfl rfl Tryz.func111 (by kernel_rfl) rfl #[.int .u32 a1] rfl zq6 ?_; (with_reducible refine (cmp_isNaN_uint32.calls a1 true _ A4.out).mono ?_); rintro e w' ⟨rfl, ⟨nd, rfl⟩⟩; refine ⟨_, rfl, ?_⟩))
   go_ret
   exact ⟨by first | rfl | (simp; done) | (simp [*]; done), by repeat (first | exact Drawn0.refl _ | apply Drawn0.step)⟩
  ·replace c6 := Bool.eq_false_iff.mpr c6
   subst c6
   have H1 : (some (-1)) = some r := by rw [if_neg (show ¬ (false = true) by decide)] at H; exact H
   clear H
   have H := H1
   clear H1
   obtain rfl := Option.some.inj H
   go_enter Tryz.func92, Tryz.ntmps92
   go_wp2_with (first | ((with_reducible refine gate_callee (f := 111) rfl ?_); refine goesL_ (some 8) rfl rfl Tryz.func111 (by kernel_rfl) rfl #[.int .u32 a0] rfl zq6 ?_; (with_reducible refine (cmp_isNaN_uint32.calls a0 true _ A3.out).mono ?_); rintro e w' ⟨rfl, ⟨nd, rfl⟩⟩; refine ⟨_, rfl, ?_⟩) | ((with_reducible refine gate_callee (f := 111) rfl ?_); refine goesL_ (some 10) rfl rfl Tryz.func111 (by kernel_rfl) rfl #[.int .u32 a1] rfl zq6 ?_; (with_reducible refine (cmp_isNaN_uint32.calls a1 false _ A4.out).mono ?_); rintro e w' ⟨rfl, ⟨nd, rfl⟩⟩; refine ⟨_, rfl, ?_⟩))
   go_ret
   exact ⟨by first | rfl | (simp; done) | (simp [*]; done), by repeat (first | exact Drawn0.refl _ | apply Drawn0.step)⟩
 ·replace c5 := Bool.eq_false_iff.mpr c5
  subst c5
  have H1 : (if t449 = true then (some 1) else (if a0 < a1 then (some (-1)) else (if a0 > a1 then (some 1) else (some 0)))) = some r := by rw [if_neg (show ¬ (false = true) by decide)] at H; exact H
  clear H
  have H := H1
  clear H1
  by_cases c7 : t449 = true
  ·subst c7
   have H1 : (some 1) = some r := by rw [if_pos rfl] at H; exact H
   clear H
   have H := H1
   clear H1
   obtain rfl := Option.some.inj H
   go_enter Tryz.func92, Tryz.ntmps92
   go_wp2_with (first | ((with_reducible refine gate_callee (f := 111) rfl ?_); refine goesL_ (some 8) rfl rfl Tryz.func111 (by kernel_rfl) rfl #[.int .u32 a0] rfl zq6 ?_; (with_reducible refine (cmp_isNaN_uint32.calls a0 false _ A3.out).mono ?_); rintro e w' ⟨rfl, ⟨nd, rfl⟩⟩; refine ⟨_, rfl, ?_⟩) | ((with_reducible refine gate_callee (f := 111) rfl ?_); refine goesL_ (some 10) rfl rfl Tryz.func111 (by kernel_rfl) rfl #[.int .u32 a1] rfl zq6 ?_; (with_reducible refine (cmp_isNaN_uint32.calls a1 true _ A4.out).mono ?_); rintro e w' ⟨rfl, ⟨nd, rfl⟩⟩; refine ⟨_, rfl, ?_⟩))
   go_ret
   exact ⟨by first | rfl | (simp; done) | (simp [*]; done), by repeat (first | exact Drawn0.refl _ | apply Drawn0.step)⟩
  ·replace c7 := Bool.eq_false_iff.mpr c7
   subst c7
   have H1 : (if a0 < a1 then (some (-1)) else (if a0 > a1 then (some 1) else (some 0))) = some r := by rw [if_neg (show ¬ (false = true) by decide)] at H; exact H
   clear H
   have H := H1
   clear H1
   by_cases c8 : a0 < a1
   ·rw [if_pos c8] at H
    have c8b0 : decide (a0 < a1) = true := decide_eq_true c8
    clear c8
    obtain rfl := Option.some.inj H
    go_enter Tryz.func92, Tryz.ntmps92
    go_wp2_with (first | ((with_reducible refine gate_callee (f := 111) rfl ?_); refine goesL_ (some 8) rfl rfl Tryz.func111 (by kernel_rfl) rfl #[.int .u32 a0] rfl zq6 ?_; (with_reducible refine (cmp_isNaN_uint32.calls a0 false _ A3.out).mono ?_); rintro e w' ⟨rfl, ⟨nd, rfl⟩⟩; refine ⟨_, rfl, ?_⟩) | ((with_reducible refine gate_callee (f := 111) rfl ?_); refine goesL_ (some 10) rfl rfl Tryz.func111 (by kernel_rfl) rfl #[.int .u32 a1] rfl zq6 ?_; (with_reducible refine (cmp_isNaN_uint32.calls a1 false _ A4.out).mono ?_); rintro e w' ⟨rfl, ⟨nd, rfl⟩⟩; refine ⟨_, rfl, ?_⟩))
    go_ret
    exact ⟨by first | rfl | (simp; done) | (simp [*]; done), by repeat (first | exact Drawn0.refl _ | apply Drawn0.step)⟩
   ·rw [if_neg c8] at H
    have c8b0 : decide (a0 < a1) = false := decide_eq_false c8
    clear c8
    by_cases c9 : a0 > a1
    ·rw [if_pos c9] at H
     have c9b0 : decide (a1 < a0) = true := decide_eq_true c9
     clear c9
     obtain rfl := Option.some.inj H
     go_enter Tryz.func92, Tryz.ntmps92
     go_wp2_with (first | ((with_reducible refine gate_callee (f := 111) rfl ?_); refine goesL_ (some 8) rfl rfl Tryz.func111 (by kernel_rfl) rfl #[.int .u32 a0] rfl zq6 ?_; (with_reducible refine (cmp_isNaN_uint32.calls a0 false _ A3.out).mono ?_); rintro e w' ⟨rfl, ⟨nd, rfl⟩⟩; refine ⟨_, rfl, ?_⟩) | ((with_reducible refine gate_callee (f := 111) rfl ?_); refine goesL_ (some 10) rfl rfl Tryz.func111 (by kernel_rfl) rfl #[.int .u32 a1] rfl zq6 ?_; (with_reducible refine (cmp_isNaN_uint32.calls a1 false _ A4.out).mono ?_); rintro e w' ⟨rfl, ⟨nd, rfl⟩⟩; refine ⟨_, rfl, ?_⟩))
     go_ret
     exact ⟨by first | rfl | (simp; done) | (simp [*]; done), by repeat (first | exact Drawn0.refl _ | apply Drawn0.step)⟩
    ·rw [if_neg c9] at H
     have c9b0 : decide (a1 < a0) = false := decide_eq_false c9
     clear c9
     obtain rfl := Option.some.inj H
     go_enter Tryz.func92, Tryz.ntmps92
     go_wp2_with (first | ((with_reducible refine gate_callee (f := 111) rfl ?_); refine goesL_ (some 8) rfl rfl Tryz.func111 (by kernel_rfl) rfl #[.int .u32 a0] rfl zq6 ?_; (with_reducible refine (cmp_isNaN_uint32.calls a0 false _ A3.out).mono ?_); rintro e w' ⟨rfl, ⟨nd, rfl⟩⟩; refine ⟨_, rfl, ?_⟩) | ((with_reducible refine gate_callee (f := 111) rfl ?_); refine goesL_ (some 10) rfl rfl Tryz.func111 (by kernel_rfl) rfl #[.int .u32 a1] rfl zq6 ?_; (with_reducible refine (cmp_isNaN_uint32.calls a1 false _ A4.out).mono ?_); rintro e w' ⟨rfl, ⟨nd, rfl⟩⟩; refine ⟨_, rfl, ?_⟩))
     go_ret
     exact ⟨by first | rfl | (simp; done) | (simp [*]; done), by repeat (first | exact Drawn0.refl _ | apply Drawn0.step)⟩

/-! ### wide_compare: function 67 -/
def wide_compare.l0 : Nat → List Int → List Int → Int → Option (Int)
 | 0, _, _, _ => none
 | k + 1, x0, x1, x6 => if x6 ≥ 0 then (if 0 ≤ x6 then (if x6 < (x0.length : Int) then (if x6 < (x1.length : Int) then ((cmp_Compare_uint32.f (rd x0 x6) (rd x1 x6)).bind fun t453 => (if t453 = 0 then (wide_compare.l0 k x0 x1 (wrap64 (x6 - 1))) else (some t453))) else (none)) else (none)) else (none)) else (some 0)
def wide_compare.f (k : Nat) (l0 : List Int) (l1 : List Int) : Option (Int) := (cmp_Compare_int.f (l0.length : Int) (l1.length : Int)).bind fun t450 => (if t450 = 0 then (wide_compare.l0 k l0 l1 (wrap64 ((l0.length : Int) - 1))) else (some t450))
theorem wide_compare.mono_l : ∀ k, (∀ y0 y1 y2, LeO (wide_compare.l0 k y0 y1 y2) (wide_compare.l0 (k + 1) y0 y1 y2))
 | 0 => fun _ _ _ r h => by simp [wide_compare.l0] at h
 | k + 1 => by
  have ih0 := wide_compare.mono_l k
  ·intro y0 y1 y2
   unfold wide_compare.l0
   repeat' first
   | (with_reducible exact ih0 _ _ _)
   | (with_reducible exact LeO.refl _)
   | (with_reducible exact LeO.none _)
   | (with_reducible refine LeO.ite ?_ ?_)
   | (with_reducible refine LeO.bind ?_ (fun _ => ?_))
   | exact ih0 _ _ _
   | exact LeO.none _
   | refine LeO.ite ?_ ?_
   | refine LeO.bind ?_ (fun _ => ?_)
theorem wide_compare.mono : ∀ a0 a1 k, LeO (wide_compare.f k a0 a1) (wide_compare.f (k + 1) a0 a1) := by
 intro a0 a1 k
 have ih0 := wide_compare.mono_l k
 unfold wide_compare.f
 repeat' first
   | (with_reducible exact ih0 _ _ _)
   | (with_reducible exact LeO.refl _)
   | (with_reducible exact LeO.none _)
   | (with_reducible refine LeO.ite ?_ ?_)
   | (with_reducible refine LeO.bind ?_ (fun _ => ?_))
   | exact ih0 _ _ _
   | exact LeO.none _
   | refine LeO.ite ?_ ?_
   | refine LeO.bind ?_ (fun _ => ?_)
set_option maxHeartbeats 8000000 in
set_option maxRecDepth 100000 in
theorem wide_compare.calls (k : Nat) (A0 : Option Addr) (c0 : Nat) (l0 : List Int) (A1 : Option Addr) (c1 : Nat) (l1 : List Int) (r : Int) (w : World) (hr0 : Kd.C (Kd.int .u32) w A0 l0.length l0) (hc0 : l0.length ≤ c0) (hr1 : Kd.C (Kd.int .u32) w A1 l1.length l1) (hc1 : l1.length ≤ c1) (h : wide_compare.f k l0 l1 = some r) :
  Calls Tryz.prog 67 #[.slice A0 l0.length c0, .slice A1 l1.length c1] w fun e w' => e = .returned (.int .i64 r) ∧ Drawn0 w w' := by
 have HR0 := am_ hr0
 have HC0 := am_ hc0
 clear hr0 hc0
 have HR1 := am_ hr1
 have HC1 := am_ hc1
 clear hr1 hc1
 have H : ((cmp_Compare_int.f (l0.length : Int) (l1.length : Int)).bind fun t450 => (if t450 = 0 then (wide_compare.l0 k l0 l1 (wrap64 ((l0.length : Int) - 1))) else (some t450))) = some r := h
 clear h
 replace H := Option.bind_eq_some_iff.mp H
 obtain ⟨t450, A30, H⟩ := H
 replace H : (if t450 = 0 then (wide_compare.l0 k l0 l1 (wrap64 ((l0.length : Int) - 1))) else (some t450)) = some r := H
 have A3 := am_ A30
 clear A30
 by_cases c4 : t450 = 0
 ·rw [if_pos c4] at H
  have c4b0 : (t450 == 0) = true := beq_iff_eq.mpr c4
  have c4b1 : (t450 != 0) = false := bne_eq_false_iff_eq.mpr c4
  clear c4
  have H' := am_ H
  clear H
  go_enter Tryz.func67, Tryz.ntmps67
  go_wp2_with (first | (go_at_call 91; (with_reducible refine (cmp_Compare_int.calls (l0.length : Int) (l1.length : Int) t450 _ A3.out).mono ?_); rintro e w' ⟨rfl, ⟨nd, rfl⟩⟩; (try first | exact ⟨rfl, _, World.drewN_drewN _ _ _⟩ | exact ⟨rfl, _, Eq.trans (World.drewN_drewN _ _ _) (congrArg (World.drewN _) (Nat.add_assoc _ _ _))⟩)))
  repeat (go_quiet (first | (go_at_call 91; (with_reducible refine (cmp_Compare_int.calls (l0.length : Int) (l1.length : Int) t450 _ A3.out).mono ?_); rintro e w' ⟨rfl, ⟨nd, rfl⟩⟩; (try first | exact ⟨rfl, _, World.drewN_drewN _ _ _⟩ | exact ⟨rfl, _, Eq.trans (World.drewN_drewN _ _ _) (congrArg (World.drewN _) (Nat.add_assoc _ _ _))⟩))); try go_wp2_with (first | (go_at_call 91; (with_reducible refine (cmp_Compare_int.calls (l0.length : Int) (l1.length : Int) t450 _ A3.out).mono ?_); rintro e w' ⟨rfl, ⟨nd, rfl⟩⟩; (try first | exact ⟨rfl, _, World.drewN_drewN _ _ _⟩ | exact ⟨rfl, _, Eq.trans (World.drewN_drewN _ _ _) (congrArg (World.drewN _) (Nat.add_assoc _ _ _))⟩))))
  try simp only [Act.put, List.setIfInBounds_toArray, List.set_cons_zero, List.set_cons_succ]
  go_loopg [6] k (fun kq v6 w' => ∃ (x6_1 : Int), v6 = .int .i64 x6_1 ∧ Aside0 (wide_compare.l0 kq l0 l1 x6_1 = some r) ∧ Aside0 (kq ≤ k) ∧ Drawn0 w w')
  case atStart => exact ⟨(wrap64 ((l0.length : Int) - 1)), zq5, H', ⟨Nat.le_refl _⟩, by repeat (first | exact Drawn0.refl _ | apply Drawn0.step)⟩
  case round =>
   clear H'
   try clear c1
   try clear p2
   try clear c4
   try clear c4b0
   try clear c4b1
   obtain ⟨x6_1, rfl, HA, HK1, ⟨m1, rfl⟩⟩ := hrel
   cases gk with
   | zero => exact absurd HA.out (by simp [wide_compare.l0])
   | succ k1 =>
    have H := HA.out
    clear HA
    simp only [wide_compare.l0] at H
    by_cases c5 : x6_1 ≥ 0
    ·rw [if_pos c5] at H
     have c5b0 : decide (0 ≤ x6_1) = true := decide_eq_true c5
     clear c5
     by_cases c6 : 0 ≤ x6_1
     ·rw [if_pos c6] at H
      have c6b0 : decide (0 ≤ x6_1) = true := decide_eq_true c6
      clear c6
      by_cases c7 : x6_1 < (l0.length : Int)
      ·rw [if_pos c7] at H
       have c7b0 : decide (x6_1 < (l0.length : Int)) = true := decide_eq_true c7
       clear c7
       by_cases c8 : x6_1 < (l1.length : Int)
       ·rw [if_pos c8] at H
        have c8b0 : decide (x6_1 < (l1.length : Int)) = true := decide_eq_true c8
        clear c8
        replace H := Option.bind_eq_some_iff.mp H
        obtain ⟨t453, A90, H⟩ := H
        replace H : (if t453 = 0 then (wide_compare.l0 k1 l0 l1 (wrap64 (x6_1 - 1))) else (some t453)) = some r := H
        have A9 := am_ A90
        clear A90
        by_cases c10 : t453 = 0
        ·rw [if_pos c10] at H
         have c10b0 : (t453 == 0) = true := beq_iff_eq.mpr c10
         have c10b1 : (t453 != 0) = false := bne_eq_false_iff_eq.mpr c10
         clear c10
         have H' := am_ H
         clear H
         have p451 : 0 ≤ (x6_1 : Int) := of_decide_eq_true zq3
         have q451 : x6_1 < (l0.length : Int) := of_decide_eq_true zq3
         obtain ⟨ad451, e451, hx451_0⟩ := Kd.at_int HR0.out x6_1 p451 q451
         cases e451
         replace p451 := eq_true p451
         replace q451 := eq_true q451
         have p452 : 0 ≤ (x6_1 : Int) := of_decide_eq_true zq3
         have q452 : x6_1 < (l1.length : Int) := of_decide_eq_true zq3
         obtain ⟨ad452, e452, hx452_0⟩ := Kd.at_int HR1.out x6_1 p452 q452
         cases e452
         replace p452 := eq_true p452
         replace q452 := eq_true q452
         go_wp2_with (first | (go_at_call 92; (with_reducible refine (cmp_Compare_uint32.calls (rd l0 x6_1) (rd l1 x6_1) t453 _ A9.out).mono ?_); rintro e w' ⟨rfl, ⟨nd, rfl⟩⟩; (try first | exact ⟨rfl, _, World.drewN_drewN _ _ _⟩ | exact ⟨rfl, _, Eq.trans (World.drewN_drewN _ _ _) (congrArg (World.drewN _) (Nat.add_assoc _ _ _))⟩)))
         repeat (go_quiet (first | (go_at_call 92; (with_reducible refine (cmp_Compare_uint32.calls (rd l0 x6_1) (rd l1 x6_1) t453 _ A9.out).mono ?_); rintro e w' ⟨rfl, ⟨nd, rfl⟩⟩; (try first | exact ⟨rfl, _, World.drewN_drewN _ _ _⟩ | exact ⟨rfl, _, Eq.trans (World.drewN_drewN _ _ _) (congrArg (World.drewN _) (Nat.add_assoc _ _ _))⟩))); try go_wp2_with (first | (go_at_call 92; (with_reducible refine (cmp_Compare_uint32.calls (rd l0 x6_1) (rd l1 x6_1) t453 _ A9.out).mono ?_); rintro e w' ⟨rfl, ⟨nd, rfl⟩⟩; (try first | exact ⟨rfl, _, World.drewN_drewN _ _ _⟩ | exact ⟨rfl, _, Eq.trans (World.drewN_drewN _ _ _) (congrArg (World.drewN _) (Nat.add_assoc _ _ _))⟩))))
         go_roundg k1
         case measure => have := HK1.out; omega
         case rel => exact ⟨(wrap64 (x6_1 - 1)), zq5, H', ⟨by have := HK1.out; omega⟩, by repeat (first | exact Drawn0.refl _ | apply Drawn0.step)⟩
        ·rw [if_neg c10] at H
         have c10b0 : (t453 == 0) = false := beq_eq_false_iff_ne.mpr c10
         have c10b1 : (t453 != 0) = true := bne_iff_ne.mpr c10
         obtain rfl := Option.some.inj H
         have p451 : 0 ≤ (x6_1 : Int) := of_decide_eq_true zq3
         have q451 : x6_1 < (l0.length : Int) := of_decide_eq_true zq3
         obtain ⟨ad451, e451, hx451_0⟩ := Kd.at_int HR0.out x6_1 p451 q451
         cases e451
         replace p451 := eq_true p451
         replace q451 := eq_true q451
         have p452 : 0 ≤ (x6_1 : Int) := of_decide_eq_true zq3
         have q452 : x6_1 < (l1.length : Int) := of_decide_eq_true zq3
         obtain ⟨ad452, e452, hx452_0⟩ := Kd.at_int HR1.out x6_1 p452 q452
         cases e452
         replace p452 := eq_true p452
         replace q452 := eq_true q452
         go_wp2_with (first | (go_at_call 92; (with_reducible refine (cmp_Compare_uint32.calls (rd l0 x6_1) (rd l1 x6_1) t453 _ A9.out).mono ?_); rintro e w' ⟨rfl, ⟨nd, rfl⟩⟩; (try first | exact ⟨rfl, _, World.drewN_drewN _ _ _⟩ | exact ⟨rfl, _, Eq.trans (World.drewN_drewN _ _ _) (congrArg (World.drewN _) (Nat.add_assoc _ _ _))⟩)))
         repeat (go_quiet (first | (go_at_call 92; (with_reducible refine (cmp_Compare_uint32.calls (rd l0 x6_1) (rd l1 x6_1) t453 _ A9.out).mono ?_); rintro e w' ⟨rfl, ⟨nd, rfl⟩⟩; (try first | exact ⟨rfl, _, World.drewN_drewN _ _ _⟩ | exact ⟨rfl, _, Eq.trans (World.drewN_drewN _ _ _) (congrArg (World.drewN _) (Nat.add_assoc _ _ _))⟩))); try go_wp2_with (first | (go_at_call 92; (with_reducible refine (cmp_Compare_uint32.calls (rd l0 x6_1) (rd l1 x6_1) t453 _ A9.out).mono ?_); rintro e w' ⟨rfl, ⟨nd, rfl⟩⟩; (try first | exact ⟨rfl, _, World.drewN_drewN _ _ _⟩ | exact ⟨rfl, _, Eq.trans (World.drewN_drewN _ _ _) (congrArg (World.drewN _) (Nat.add_assoc _ _ _))⟩))))
         go_ret
         exact ⟨by first | rfl | (simp; done) | (simp [*]; done), by repeat (first | exact Drawn0.refl _ | apply Drawn0.step)⟩
       ·rw [if_neg c8] at H
        exact absurd H (by simp)
      ·rw [if_neg c7] at H
       exact absurd H (by simp)
     ·rw [if_neg c6] at H
      exact absurd H (by simp)
    ·rw [if_neg c5] at H
     have c5b0 : decide (0 ≤ x6_1) = false := decide_eq_false c5
     clear c5
     obtain rfl := Option.some.inj H
     go_wp2
     repeat (go_quiet (fail); try go_wp2)
     go_ret
     exact ⟨by first | rfl | (simp; done) | (simp [*]; done), by repeat (first | exact Drawn0.refl _ | apply Drawn0.step)⟩
 ·rw [if_neg c4] at H
  have c4b0 : (t450 == 0) = false := beq_eq_false_iff_ne.mpr c4
  have c4b1 : (t450 != 0) = true := bne_iff_ne.mpr c4
  obtain rfl := Option.some.inj H
  go_enter Tryz.func67, Tryz.ntmps67
  go_wp2_with (first | (go_at_call 91; (with_reducible refine (cmp_Compare_int.calls (l0.length : Int) (l1.length : Int) t450 _ A3.out).mono ?_); rintro e w' ⟨rfl, ⟨nd, rfl⟩⟩; (try first | exact ⟨rfl, _, World.drewN_drewN _ _ _⟩ | exact ⟨rfl, _, Eq.trans (World.drewN_drewN _ _ _) (congrArg (World.drewN _) (Nat.add_assoc _ _ _))⟩)))
  repeat (go_quiet (first | (go_at_call 91; (with_reducible refine (cmp_Compare_int.calls (l0.length : Int) (l1.length : Int) t450 _ A3.out).mono ?_); rintro e w' ⟨rfl, ⟨nd, rfl⟩⟩; (try first | exact ⟨rfl, _, World.drewN_drewN _ _ _⟩ | exact ⟨rfl, _, Eq.trans (World.drewN_drewN _ _ _) (congrArg (World.drewN _) (Nat.add_assoc _ _ _))⟩))); try go_wp2_with (first | (go_at_call 91; (with_reducible refine (cmp_Compare_int.calls (l0.length : Int) (l1.length : Int) t450 _ A3.out).mono ?_); rintro e w' ⟨rfl, ⟨nd, rfl⟩⟩; (try first | exact ⟨rfl, _, World.drewN_drewN _ _ _⟩ | exact ⟨rfl, _, Eq.trans (World.drewN_drewN _ _ _) (congrArg (World.drewN _) (Nat.add_assoc _ _ _))⟩))))
  go_ret
  exact ⟨by first | rfl | (simp; done) | (simp [*]; done), by repeat (first | exact Drawn0.refl _ | apply Drawn0.step)⟩

end Go.Proofs.YtlceokefdihdkaaGreatDoor.X
