import Derived.Test.YtlceokefdihdkaaGreatDoorPw
import Derived.Test.YtlceokefdihdkaaGreatDoorXx
import Derived.Test.YtlceokefdihdkaaGreatDoorXx0
import Derived.Test.YtlceokefdihdkaaGreatDoorXx1
import Derived.Test.YtlceokefdihdkaaGreatDoorXx10
import Derived.Test.YtlceokefdihdkaaGreatDoorXx2
import Derived.Test.YtlceokefdihdkaaGreatDoorXx3
import Derived.Test.YtlceokefdihdkaaGreatDoorXx4
import Derived.Test.YtlceokefdihdkaaGreatDoorXx5
import Derived.Test.YtlceokefdihdkaaGreatDoorXx6
import Derived.Test.YtlceokefdihdkaaGreatDoorXx7
import Derived.Test.YtlceokefdihdkaaGreatDoorXx8
import Derived.Test.YtlceokefdihdkaaGreatDoorXx9
import Derived.Lib.EndianBits
namespace Go.Proofs.YtlceokefdihdkaaGreatDoor
open Go.RowKit Go.Proofs.YtlceokefdihdkaaGreatDoorW.PrintWords Go.Proofs.YtlceokefdihdkaaGreatDoorW.PrintLast Go.Proofs.YtlceokefdihdkaaGreatDoorW.PrintMore
open X Go.Lib
set_option linter.unusedSimpArgs false
set_option linter.unusedVariables false
theorem or_low {h l : Int} (h0 : 0 ≤ h) (h1 : h < 4294967296) (l0 : 0 ≤ l) (l1 : l < 4294967296) : Go.bits .or .u64 l (h * 4294967296) = l + h * 4294967296 :=
 bits_join_low .u64 64 (Nat.le_refl _) (fun n h₀ h₁ => wraps_u64 n h₀ h₁) 32 _ _ l0 (by show l < 4294967296; omega) (by show l < 18446744073709551616; omega) (by omega) (by show h * 4294967296 % 4294967296 = 0; omega) (by show h * 4294967296 < 18446744073709551616; omega)
theorem or_zero {l : Int} (l0 : 0 ≤ l) (l1 : l < 4294967296) : Go.bits .or .u64 0 l = l := by
 have := or_add (h := 0) (by omega) (by omega) l0 l1
 simpa using this
theorem shl0 {l : Int} (l0 : 0 ≤ l) (l1 : l < 4294967296) : shl .u64 (IntKind.u64.wrap l) (wrap64 (32 * 0)) = l := by
 rw [w64 l0 (by omega), show wrap64 (32 * 0) = 0 by decide +kernel]
 unfold shl
 simp only [Int.toNat_zero, Nat.zero_min, Nat.min_eq_left (Nat.zero_le _), Int.pow_zero, Int.mul_one]
 exact w64 l0 (by omega)
theorem shl32 {l : Int} (l0 : 0 ≤ l) (l1 : l < 4294967296) : shl .u64 (IntKind.u64.wrap l) (wrap64 (32 * 1)) = l * 4294967296 := by
 rw [w64 l0 (by omega), show wrap64 (32 * 1) = 32 by decide +kernel]
 unfold shl
 rw [show (2 : Int) ^ min (Int.toNat 32) (IntKind.u64.bits) = 4294967296 by decide]
 exact w64 (by omega) (by omega)
def smallZ (z : Int) : Int × Bool := if -9223372036854775808 ≤ z ∧ z < 9223372036854775808 then (z, true) else (0, false)
theorem small_end {n : Bool} {D : List Int} {z : Int} (h : RI 4294967296 512 n D z) (hl : D.length ≤ 2) (k : Nat) :
  (if n = true then (if bv 4294967296 D = 0 then (some (wrap64 (-(wrap64 (bv 4294967296 D))), true)) else (if (!((decide ((wrap64 (-(wrap64 (bv 4294967296 D)))) < 0)) == n)) = true then (some (0, false)) else (some (wrap64 (-(wrap64 (bv 4294967296 D))), true)))) else (if bv 4294967296 D = 0 then (some (wrap64 (bv 4294967296 D), true)) else (if (!((decide ((wrap64 (bv 4294967296 D)) < 0)) == n)) = true then (some (0, false)) else (some (wrap64 (bv 4294967296 D), true)))))
   = some (smallZ z) := by
 have h0 := bv_nonneg (by decide) h.wf
 have h1 : bv 4294967296 D < 18446744073709551616 := by
  have h1 := bv_lt (B := 4294967296) (by decide) h.wf
  match D, hl with
  | [], _ => simp [bv]
  | [a], _ => simp only [List.length_cons, List.length_nil] at h1; omega
  | [a, b], _ => simp only [List.length_cons, List.length_nil] at h1; omega
 have hv := h.val
 have hi := h.neg_iff (by decide)
 generalize bv 4294967296 D = v at *
 unfold smallZ
 cases n with
 | true =>
  have hz : z < 0 := hi.1 rfl
  simp only [if_true] at hv
  subst hv
  rw [if_pos rfl, if_neg (by omega)]
  by_cases hs : v ≤ 9223372036854775808
  ·have e : wrap64 (-(wrap64 v)) = -v := by unfold wrap64; omega
   rw [e, if_pos (c := _ ∧ _) (by omega), if_neg (by simp; omega)]
  ·have e : ¬ wrap64 (-(wrap64 v)) < 0 := by unfold wrap64; omega
   rw [if_neg (c := _ ∧ _) (by omega), if_pos (by simp [e])]
 | false =>
  simp at hv
  subst hv
  rw [if_neg (by simp)]
  by_cases hs : z < 9223372036854775808
  ·have e : wrap64 z = z := wrap_id (by omega) hs
   rw [e, if_pos (c := _ ∧ _) (by omega)]
   split
   ·rfl
   ·rw [if_neg (by simp; omega)]
  ·have e : wrap64 z < 0 := by unfold wrap64; omega
   rw [if_neg (by omega), if_pos (by simp [e]), if_neg (by omega)]
theorem xsmall_ev {n : Bool} {D : List Int} {z : Int} (h : RI 4294967296 512 n D z) : Ev (fun k => wide_Int_Small.f k n D) (smallZ z) := by
 have hw := h.wf
 by_cases hl : D.length ≤ 2
 ·have he := small_end h hl
  match D, hl, hw with
  | [], _, _ =>
   refine Ev.of_mono (fun k => wide_Int_Small.mono _ _ k) (k0 := 1) ?_
   rw [← he 0]
   rfl
  | [a], _, hw =>
   obtain ⟨ha, _⟩ := wf_cons.1 hw
   refine Ev.of_mono (fun k => wide_Int_Small.mono _ _ k) (k0 := 2) ?_
   rw [← he 0]
   unfold wide_Int_Small.f
   rw [wide_Int_Small.l0, if_pos (by simp), if_pos (by omega), if_pos (by simp), if_neg (by omega), if_pos (by decide +kernel), show rd [a] 0 = a from rfl, shl0 ha.1 ha.2, or_zero ha.1 ha.2, wide_Int_Small.l0, show wrap64 (0 + 1) = 1 by decide +kernel, if_neg (by simp)]
   simp only [bv, Int.mul_zero, Int.add_zero]
  | [a, b], _, hw =>
   obtain ⟨ha, hw2⟩ := wf_cons.1 hw
   obtain ⟨hb, _⟩ := wf_cons.1 hw2
   refine Ev.of_mono (fun k => wide_Int_Small.mono _ _ k) (k0 := 3) ?_
   rw [← he 0]
   unfold wide_Int_Small.f
   rw [wide_Int_Small.l0, if_pos (by simp), if_pos (by omega), if_pos (by simp), if_neg (by omega), if_pos (by decide +kernel), show rd [a, b] 0 = a from rfl, shl0 ha.1 ha.2, or_zero ha.1 ha.2, show wrap64 (0 + 1) = 1 by decide +kernel]
   rw [wide_Int_Small.l0, if_pos (by simp), if_pos (by omega), if_pos (by simp), if_neg (by omega), if_pos (by decide +kernel), show rd [a, b] 1 = b from rfl, shl32 hb.1 hb.2, or_low hb.1 hb.2 ha.1 ha.2, show wrap64 (1 + 1) = 2 by decide +kernel, wide_Int_Small.l0, if_neg (by simp)]
   have e : bv 4294967296 [a, b] = a + b * 4294967296 := by simp only [bv]; omega
   rw [e]
 ·have hbig : ¬ (-9223372036854775808 ≤ z ∧ z < 9223372036854775808) := by
   have h1 := bv_ge (B := 4294967296) (by decide) h.wf h.nrm (by intro hh; subst hh; simp at hl)
   have h2 := Nat.pow_le_pow_right (show 0 < 4294967296 by decide) (show 2 ≤ D.length - 1 by omega)
   have e : ∀ n : Nat, (4294967296 : Int) ^ n = ((4294967296 ^ n : Nat) : Int) := fun n => by rw [Int.natCast_pow]; rfl
   rw [e] at h1
   have hv := h.val
   have h3 : (4294967296 : Nat) ^ 2 = 18446744073709551616 := by decide
   rw [h3] at h2
   generalize (4294967296 : Nat) ^ (D.length - 1) = q at *
   split at hv <;> omega
  unfold smallZ
  rw [if_neg hbig]
  match D, hl with
  | [], hl => simp at hl
  | [a], hl => simp at hl
  | [a, b], hl => simp at hl
  | a :: b :: c :: r, _ =>
   have hn : ((a :: b :: c :: r).length : Int) = (r.length : Int) + 3 := by simp; omega
   refine Ev.of_mono (fun k => wide_Int_Small.mono _ _ k) (k0 := 3) ?_
   unfold wide_Int_Small.f
   rw [hn, wide_Int_Small.l0, if_pos (by omega), if_pos (by omega), if_pos (by rw [hn]; omega), if_neg (by omega), if_pos (by decide +kernel), show wrap64 (0 + 1) = 1 by decide +kernel]
   rw [wide_Int_Small.l0, if_pos (by omega), if_pos (by omega), if_pos (by rw [hn]; omega), if_neg (by omega), if_pos (by decide +kernel), show wrap64 (1 + 1) = 2 by decide +kernel]
   rw [wide_Int_Small.l0, if_pos (by omega), if_pos (by omega), if_pos (by rw [hn]; omega), if_pos (by omega)]
def sgv (n : Bool) (v : Int) : Int := if n then -v else v
theorem rsmall_l0 {L : Nat} {n : Bool} {D : List Int} {z : Int} (h : RI 10000 L n D z) (hL : L < 1000000) (h0 : -9223372036854775808 ≤ z) (h1 : z < 9223372036854775808) : ∀ (i : Nat), i ≤ D.length → ∀ k, i < k →
  worldmintref05_Small.l0 k (sgv n (bv 10000 (D.drop i))) ((i : Int) - 1) n D = some (z, true) := by
 have hlen := h.len
 intro i
 induction i with
 | zero =>
  intro hi k hk
  obtain ⟨k, rfl⟩ : ∃ j, k = j + 1 := ⟨k - 1, by omega⟩
  rw [worldmintref05_Small.l0, if_neg (by omega), List.drop_zero]
  have := h.val
  unfold sgv
  rw [← this]
 | succ i ih =>
  intro hi k hk
  obtain ⟨k, rfl⟩ : ∃ j, k = j + 1 := ⟨k - 1, by omega⟩
  have hd := drop_rd D i (by omega)
  have hrd := rd_wf h.wf (i := (i : Int)) (by omega) (by omega)
  have hb : bv 10000 (D.drop i) = rd D (i : Int) + 10000 * bv 10000 (D.drop (i + 1)) := by rw [hd]; rfl
  have hn1 := bv_nonneg (by decide) (wf_drop h.wf (i + 1))
  have hle : bv 10000 (D.drop i) ≤ bv 10000 D := by
   have := bv_append 10000 (D.take i) (D.drop i)
   rw [List.take_append_drop] at this
   have h2 := bv_nonneg (by decide) (wf_take h.wf i)
   have h3 := pow_pos' (B := 10000) (by decide) (D.take i).length
   have h4 := bv_nonneg (by decide) (wf_drop h.wf i)
   have h5 : 1 * bv 10000 (D.drop i) ≤ 10000 ^ (D.take i).length * bv 10000 (D.drop i) := Int.mul_le_mul_of_nonneg_right (by omega) h4
   omega
  have hv := h.val
  have hih := ih (by omega) k (by omega)
  rw [hb] at hih hle
  generalize bv 10000 (D.drop (i + 1)) = v at *
  generalize bv 10000 D = V at *
  generalize hx : rd D (i : Int) = x at *
  have e0 : ((i + 1 : Nat) : Int) - 1 = (i : Int) := by omega
  have e2 : wrap64 ((i : Int) - 1) = (i : Int) - 1 := wrap_id (by omega) (by omega)
  unfold sgv at hih ⊢
  cases n with
  | true =>
   simp only [if_true] at hv hih
   have e1 : wrap64 (wrap64 (-v * 10000) - x) = -(x + 10000 * v) := by
    rw [wrap_id (n := -v * 10000) (by omega) (by omega), wrap_id (by omega) (by omega)]; omega
   rw [e0, worldmintref05_Small.l0, if_pos (by omega), if_pos rfl, if_pos (by omega), if_pos (by omega), hx, if_pos rfl, e1, e2]
   exact hih
  | false =>
   simp only [Bool.false_eq_true, if_false] at hv hih
   have e1 : wrap64 (wrap64 (v * 10000) + x) = (x + 10000 * v) := by
    rw [wrap_id (n := v * 10000) (by omega) (by omega), wrap_id (by omega) (by omega)]; omega
   rw [e0, worldmintref05_Small.l0, if_pos (by omega), if_neg (by simp), if_pos (by omega), if_pos (by omega), hx, if_neg (by simp), e1, e2]
   exact hih
theorem rsmall_ev {L : Nat} {n : Bool} {D : List Int} {z : Int} (h : RI 10000 L n D z) (hL : L < 1000000) : Ev (fun k => worldmintref05_Small.f k n D) (smallZ z) := by
 have hlen := h.len
 obtain ⟨n1, a, g1, r1⟩ := of_any (n := 9223372036854775807) (by decide) (by decide)
 obtain ⟨n2, b, g2, r2⟩ := of_any (n := -9223372036854775808) (by decide) (by decide)
 have c1 := rcompare_ev h r1 hL (by decide)
 have c2 := rcompare_ev h r2 hL (by decide)
 have hbad : Ev (fun k => worldmintref05_Small.j0 k true n D) (0, false) := Ev.up (Ev.of_eq fun k => by simp [worldmintref05_Small.j0])
 unfold smallZ worldmintref05_Small.f
 by_cases hp : z > 9223372036854775807
 ·rw [cmpI_gt (by omega)] at c1
  rw [if_neg (by omega)]
  exact Ev.bind g1 (Ev.bind c1 (Ev.pos (by decide) hbad))
 ·have hc1 : ¬ cmpI z 9223372036854775807 > 0 := by unfold cmpI; (repeat' split) <;> omega
  refine Ev.bind g1 (Ev.bind c1 (Ev.neg hc1 (Ev.bind g2 (Ev.bind c2 ?_))))
  by_cases hm : z < -9223372036854775808
  ·rw [cmpI_lt hm, if_neg (by omega)]
   exact hbad
  ·have hc2 : decide (cmpI z (-9223372036854775808) < 0) = false := by
    have : ¬ cmpI z (-9223372036854775808) < 0 := by unfold cmpI; (repeat' split) <;> omega
    simp [this]
   rw [hc2, if_pos (by omega)]
   have hd := rsmall_l0 h hL (by omega) (by omega) D.length (Nat.le_refl _)
   rw [List.drop_length] at hd
   refine Ev.up ⟨D.length + 1, fun k hk => ?_⟩
   have := hd k (by omega)
   simp only [worldmintref05_Small.j0]
   rw [if_neg (by simp), wrap_id (by omega) (by omega)]
   unfold sgv at this
   simpa [bv] using this
end Go.Proofs.YtlceokefdihdkaaGreatDoor
