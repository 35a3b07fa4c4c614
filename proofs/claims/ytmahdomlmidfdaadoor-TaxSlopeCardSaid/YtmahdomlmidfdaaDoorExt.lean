/- tax.Valid, in the printed functions' form. -/
import Derived.Test.YtmahdomlmidfdaaDoorXx0
import Derived.Test.YtmahdomlmidfdaaDoorVal
namespace Go.Proofs.YtmahdomlmidfdaaDoor.X
open Go.RowKit Go.Proofs.YtmahdomlmidfdaaDoorW.PrintWords Go.Proofs.YtmahdomlmidfdaaDoorW.PrintLast Go.Proofs.YtmahdomlmidfdaaDoorW.PrintMore

/-- The brackets as pairs. -/
def prs (l : List S37) : List (Int × Int) := l.map fun x => (x.f0, x.f1)
theorem prs_len (l : List S37) : (prs l).length = l.length := List.length_map ..
theorem rdB_of {w : World} {A : Option Addr} {l : List S37} (h : Kd.C k37 w A l.length l) : RdB w A (prs l) := by
  intro i hi
  rw [prs_len] at hi
  obtain ⟨ad, e, h0, h1⟩ := at_T37 h (i : Int) (by omega) (by omega)
  have e1 : rd_T37 l (i : Int) = l[i] := by
    unfold rd_T37
    rw [Int.toNat_natCast, List.getD_eq_getElem?_getD, List.getElem?_eq_getElem hi]
    rfl
  rw [Int.toNat_natCast, e1] at h0 h1
  refine ⟨ad, e, ?_, ?_⟩
  · simpa [prs] using h0
  · simpa [prs] using h1
def tax_Valid.f (a0_0 : ByteArray) (l0_1 : List S37) : Option Int :=
  if a0_0.size ≤ 1000000 ∧ l0_1.length ≤ 1000000 then some (validT a0_0.data.toList (prs l0_1)) else none
theorem tax_Valid.calls (a0_0 : ByteArray) (A0_1 : Option Addr) (c0_1 : Nat) (l0_1 : List S37) (r : Int) (w : World) (hr0_1 : Kd.C k37 w A0_1 l0_1.length l0_1) (hc0_1 : l0_1.length ≤ c0_1) (h : tax_Valid.f a0_0 l0_1 = some r) (hG : GOK w) :
    Calls Tryd.prog 18 #[.agg #[.string a0_0, .slice A0_1 l0_1.length c0_1]] w fun e w' => e = .returned (.int .i64 r) ∧ Below w.heap.size w w' := by
  unfold tax_Valid.f at h
  split at h
  case isFalse => cases h
  case isTrue hz =>
  injection h with h
  subst h
  have := tax_valid a0_0 A0_1 (prs l0_1) c0_1 w (by unfold maxLen; omega) (by rw [prs_len]; omega) (rdB_of hr0_1) (by rw [prs_len]; exact hc0_1) hG
  rw [prs_len] at this
  exact this
end Go.Proofs.YtmahdomlmidfdaaDoor.X
