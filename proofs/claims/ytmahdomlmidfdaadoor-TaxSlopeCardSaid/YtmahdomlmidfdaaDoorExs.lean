/- share.Split, in the printed functions' form. -/
import Derived.Test.YtmahdomlmidfdaaDoorXx0
import Derived.Test.YtmahdomlmidfdaaDoorSpl
namespace Go.Proofs.YtmahdomlmidfdaaDoor.X
open Go.RowKit Go.Proofs.YtmahdomlmidfdaaDoorW.PrintWords Go.Proofs.YtmahdomlmidfdaaDoorW.PrintLast Go.Proofs.YtmahdomlmidfdaaDoorW.PrintMore

def share_Split.f (a0 : Int) (l1 : List Int) : Option (List Int × Int) := if okSplit a0 l1 = true then some (splitS a0.toNat l1, 0) else none
theorem share_Split.calls (a0 : Int) (A1 : Option Addr) (c1 : Nat) (l1 r1 : List Int) (r2 : Int) (w : World) (hr1 : Kd.C (Kd.int .i64) w A1 l1.length l1) (hc1 : l1.length ≤ c1) (h : share_Split.f a0 l1 = some (r1, r2)) :
    Calls Tryd.prog 19 #[.int .i64 a0, .slice A1 l1.length c1] w fun e w' => ∃ v0_ : Value, e = .returned (.tuple #[v0_, .int .i64 r2]) ∧ Kd.R (Kd.int .i64) 3 w' w.heap.size (fun _ => True) v0_ r1 ∧ Below w.heap.size w w' := by
  unfold share_Split.f at h
  split at h
  case isFalse => cases h
  case isTrue hk =>
  injection h with h
  injection h with h1 h2
  subst h1 h2
  exact split_walk a0 l1 A1 c1 w hr1 hc1 hk
end Go.Proofs.YtmahdomlmidfdaaDoor.X
