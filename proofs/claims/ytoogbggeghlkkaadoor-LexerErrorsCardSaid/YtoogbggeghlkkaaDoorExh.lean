/- hash.Sum, in the printed functions' form. -/
import Derived.Test.YtoogbggeghlkkaaDoorXx0
import Derived.Test.YtoogbggeghlkkaaDoorHsh
namespace Go.Proofs.YtoogbggeghlkkaaDoor.X
open Go.RowKit Go.Proofs.YtoogbggeghlkkaaDoorW.PrintWords Go.Proofs.YtoogbggeghlkkaaDoorW.PrintLast Go.Proofs.YtoogbggeghlkkaaDoorW.PrintMore

def hash_Sum.f (a0 : ByteArray) (l1 : List Int) : Option Int := if a0.data.toList = [108, 105, 110, 101] ∧ l1.length = 1 then some (sumF (l1.getD 0 0)) else none
theorem hash_Sum.calls (a0 : ByteArray) (A1 : Option Addr) (c1 : Nat) (l1 : List Int) (r : Int) (w : World) (hr1 : Kd.C (Kd.int .i64) w A1 l1.length l1) (hc1 : l1.length ≤ c1) (h : hash_Sum.f a0 l1 = some r) :
    Calls Tryd.prog 22 #[.string a0, .slice A1 l1.length c1] w fun e w' => e = .returned (.int .u64 r) ∧ Below w.heap.size w w' := by
  unfold hash_Sum.f at h
  split at h
  case isFalse => cases h
  case isTrue hh =>
  obtain ⟨h0, h1⟩ := hh
  cases h
  have e : a0 = lineS := by
    apply ByteArray.ext
    apply Array.ext'
    exact h0
  obtain ⟨ad, c, e1, _, hK, hc0⟩ := Kd.C_get hr1 (0 : Int) 0 (by omega) (by omega)
  have hK2 : c = [.int .i64 (l1.getD 0 0)] := hK
  subst hK2
  have hc : w.cell? ad = some (.int .i64 (l1.getD 0 0)) := by
    have h2 := hc0 0 _ rfl
    have e2 : ad.add ((0 : Int).toNat * 1 + 0) = ad := by simp [Addr.add]
    have h3 : w.cell? (ad.add ((0 : Int).toNat * 1 + 0)) = some (.int .i64 (l1.getD 0 0)) := h2
    rw [e2] at h3
    exact h3
  subst e e1
  rw [h1] at hc1 ⊢
  exact sum_calls ad c1 _ w hc hc1
end Go.Proofs.YtoogbggeghlkkaaDoor.X
