/- The walks of share.amount, of math/bits.Div64 below 2^64, and of share.divide there. -/
import Derived.Test.YtmahdomlmidfdaaDoorShelf
import Derived.Test.YtmahdomlmidfdaaDoorGok
import Derived.WalkKit
import Derived.KernelRfl
import Derived.Deep.QuietTactic
import Derived.BigQuiet
import Derived.Lib.Hide
namespace Go.Proofs.YtmahdomlmidfdaaDoor
open Go.RowKit Go.Shelf
set_option linter.unusedVariables false

def amtB (n : Int) : Bool := decide (0 ≤ n) && decide (n ≤ 1099511627776)
set_option maxHeartbeats 400000 in
theorem share_amount (n : Int) (w : World) : Calls Tryd.prog 21 #[.int .i64 n] w fun e w' => e = .returned (.bool (amtB n)) ∧ w' = w := by
  unfold amtB
  by_cases h : 0 ≤ n
  · rw [decide_eq_true h, Bool.true_and]
    have h1 : decide (0 ≤ n) = true := decide_eq_true h
    clear h
    go_enter Tryd.func21, Tryd.ntmps21
    go_wp2
    go_ret
    exact ⟨rfl, rfl⟩
  · rw [decide_eq_false h, Bool.false_and]
    have h1 : decide (0 ≤ n) = false := decide_eq_false h
    clear h
    go_enter Tryd.func21, Tryd.ntmps21
    go_wp2
    go_ret
    exact ⟨rfl, rfl⟩

set_option maxHeartbeats 400000 in
theorem div64_low (lo d : Int) (w : World) (h0 : 0 ≤ lo) (h1 : lo < 18446744073709551616) (d0 : 0 < d) (d1 : d < 18446744073709551616) :
    Calls Tryd.prog 34 #[.int .u64 0, .int .u64 lo, .int .u64 d] w fun e w' => e = .returned (.tuple #[.int .u64 (lo / d), .int .u64 (lo % d)]) ∧ ∃ n, w' = w.drewN n := by
  have e1 : ((d : Int) == 0) = false := by rw [beq_eq_false_iff_ne]; omega
  have e2 : decide (d ≤ 0) = false := decide_eq_false (by omega)
  go_enter Tryd.func34, Tryd.ntmps34
  go_wp2_with fail
  go_quiet (fail)
  go_wp2_with fail
  go_ret2
  exact ⟨rfl, ⟨_, rfl⟩⟩

set_option maxHeartbeats 400000 in
theorem share_divide (a b d : Nat) (w : World) (hab : a * b < 18446744073709551616) (ha : a < 9223372036854775808) (hb : b < 9223372036854775808) (d0 : 0 < d) (d1 : d < 9223372036854775808) (hq63 : a * b / d < 9223372036854775808) :
    Calls Tryd.prog 22 #[.int .i64 a, .int .i64 b, .int .i64 d] w fun e w' => (∃ m : Bool, e = .returned (.tuple #[.int .i64 (a * b / d : Nat), .int .i64 (a * b % d : Nat), .bool m])) ∧ ∃ n, w' = w.drewN n := by
  have hq : a * b / d ≤ a * b := Nat.div_le_self _ _
  have hr : a * b % d < d := Nat.mod_lt _ d0
  have e1 : IntKind.u64.wrap (a : Int) = a := IntWalk.u64_in _ (by omega)
  have e2 : IntKind.u64.wrap (b : Int) = b := IntWalk.u64_in _ (by omega)
  have e3 : IntKind.u64.wrap (d : Int) = d := IntWalk.u64_in _ (by omega)
  go_enter Tryd.func22, Tryd.ntmps22
  go_wp2_with fail
  refine (Tryd.bits_Mul64 a b (by omega) (by omega) _).mono ?_
  rintro e w1 ⟨rfl, rfl⟩
  have h0 : a * b / 18446744073709551616 = 0 := Nat.div_eq_of_lt hab
  have h1 : a * b % 18446744073709551616 = a * b := Nat.mod_eq_of_lt hab
  rw [h0, h1]
  clear h0 h1
  obtain ⟨p, hp⟩ : ∃ p, a * b = p := ⟨_, rfl⟩
  have HP := Lib.hid hp
  rw [hp] at hab hq hr hq63 ⊢
  have e4 : decide ((d : Int) ≤ ((0 : Nat) : Int)) = false := decide_eq_false (by omega)
  have e5 : decide ((d : Int) ≤ 0) = false := decide_eq_false (by omega)
  go_wp2_with fail
  refine (div64_low (p : Int) (d : Int) _ (by omega) (by omega) (by omega) (by omega)).mono ?_
  rintro e w2 ⟨rfl, n, rfl⟩
  have e6 : ((p : Int) / (d : Int)) = ((p / d : Nat) : Int) := by simp
  have e7 : ((p : Int) % (d : Int)) = ((p % d : Nat) : Int) := by simp
  rw [e6, e7]
  clear e6 e7
  obtain ⟨q, hq'⟩ : ∃ q, p / d = q := ⟨_, rfl⟩
  obtain ⟨r, hr'⟩ : ∃ r, p % d = r := ⟨_, rfl⟩
  have HQ := Lib.hid hq'
  have HRR := Lib.hid hr'
  rw [hq'] at hq hq63 ⊢
  rw [hr'] at hr ⊢
  clear hq' hr' hp
  go_wp2_with fail
  go_ret3
  exact ⟨⟨_, by rw [HP.out, HQ.out, HRR.out]; rfl⟩, ⟨_, rfl⟩⟩
end Go.Proofs.YtmahdomlmidfdaaDoor
