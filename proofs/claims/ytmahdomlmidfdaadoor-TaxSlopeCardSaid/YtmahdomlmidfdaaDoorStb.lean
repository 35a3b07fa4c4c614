/- slices.SortStableFunc at fewer than twenty ints. -/
import Derived.Test.YtmahdomlmidfdaaDoorSrt
namespace Go.Proofs.YtmahdomlmidfdaaDoor
open Go.RowKit Go.Shelf Go.Proofs.YtmahdomlmidfdaaDoorW.PrintWords
set_option linter.unusedVariables false

set_option maxRecDepth 100000 in
set_option maxHeartbeats 1000000 in
theorem stb_sort (g bx gr cap capg : Nat) (rest D : List Int) (w : World) (hbx : w.heap[bx]? = some (.cells #[.slice (some ⟨gr, 0, none⟩) rest.length cap] 22 (0, 0))) (hr : Ints w gr rest) (hD : Ints w g D) (hn : 0 < D.length) (hl : D.length < 20) (hrl : rest.length ≤ 1000)
    (hm : ∀ x ∈ D, 0 ≤ x ∧ x.toNat < rest.length) (hz : ∀ x ∈ rest, 0 ≤ x ∧ x < 4611686018427387904) (hg1 : bx ≠ g) (hg2 : gr ≠ g) :
    Calls Tryd.prog 35 #[.slice (some ⟨g, 0, none⟩) D.length capg, .int .i64 D.length, .func (.func 24) #[] #[.pointer (some ⟨bx, 0, none⟩)]] w fun e w' => e = .returned (.tuple #[]) ∧ Ints w' g (sortS rest D) ∧ But (· = g) w w' := by
  have HC := Lib.hid (ins_sort g bx gr cap capg rest D w hbx hr hD hn (by omega) hrl hm hz hg1 hg2)
  have k1 : decide ((20 : Int) ≤ (D.length : Int)) = false := decide_eq_false (by omega)
  have k2 : decide ((20 : Int) < (D.length : Int)) = false := decide_eq_false (by omega)
  clear hbx hr hD hm hz
  go_enter Tryd.func35, Tryd.ntmps35
  go_wp2_with fail
  go_loopw [7, 8] (fun u v wr => u = .int .i64 0 ∧ v = .int .i64 20 ∧ wr = w) (fun _ _ _ => 0)
  case atStart => exact ⟨rfl, rfl, rfl⟩
  case round =>
    obtain ⟨rfl, rfl, rfl⟩ := hrel
    go_wp2_with fail
    refine HC.out.mono ?_
    rintro e w1 ⟨rfl, h1, h2⟩
    have H1 := Lib.hid h1
    have H2 := Lib.hid h2
    clear h1 h2
    go_wp2_with fail
    go_loopw [6] (fun u wr => u = .int .i64 20 ∧ wr = w1) (fun _ _ => 0)
    case atStart => exact ⟨rfl, rfl⟩
    case round =>
      obtain ⟨rfl, rfl⟩ := hrel
      go_wp2_with fail
      exact bodyPost_end (by first | rfl | simp [results, go_sem]) rfl ⟨rfl, H1.out, H2.out⟩

set_option maxHeartbeats 1000000 in
theorem stable_sort (g bx gr cap capg : Nat) (rest D : List Int) (w : World) (hbx : w.heap[bx]? = some (.cells #[.slice (some ⟨gr, 0, none⟩) rest.length cap] 22 (0, 0))) (hr : Ints w gr rest) (hD : Ints w g D) (hn : 0 < D.length) (hl : D.length < 20) (hrl : rest.length ≤ 1000)
    (hm : ∀ x ∈ D, 0 ≤ x ∧ x.toNat < rest.length) (hz : ∀ x ∈ rest, 0 ≤ x ∧ x < 4611686018427387904) (hg1 : bx ≠ g) (hg2 : gr ≠ g) :
    Calls Tryd.prog 23 #[.slice (some ⟨g, 0, none⟩) D.length capg, .func (.func 24) #[] #[.pointer (some ⟨bx, 0, none⟩)]] w fun e w' => e = .returned (.tuple #[]) ∧ Ints w' g (sortS rest D) ∧ But (· = g) w w' := by
  have HC := Lib.hid (stb_sort g bx gr cap capg rest D w hbx hr hD hn hl hrl hm hz hg1 hg2)
  clear hbx hr hD hm hz
  go_enter Tryd.func23, Tryd.ntmps23
  go_wp2_with fail
  refine HC.out.mono ?_
  rintro e w1 ⟨rfl, h1, h2⟩
  have H1 := Lib.hid h1
  have H2 := Lib.hid h2
  clear h1 h2
  go_wp2_with fail
  exact bodyPost_end (by first | rfl | simp [results, go_sem]) rfl ⟨rfl, H1.out, H2.out⟩
end Go.Proofs.YtmahdomlmidfdaaDoor
