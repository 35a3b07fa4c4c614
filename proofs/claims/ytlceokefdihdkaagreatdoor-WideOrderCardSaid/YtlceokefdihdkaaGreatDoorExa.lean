import Derived.Test.YtlceokefdihdkaaGreatDoorXx0
import Derived.RangeFuncBox
import Derived.Lib.Hide
namespace Go.Proofs.YtlceokefdihdkaaGreatDoor.X
open Go.RowKit Go.Proofs.YtlceokefdihdkaaGreatDoorW.PrintWords Go.Proofs.YtlceokefdihdkaaGreatDoorW.PrintLast Go.Proofs.YtlceokefdihdkaaGreatDoorW.PrintMore
set_option linter.unusedSimpArgs false
set_option linter.unusedVariables false
theorem carrier1_calls (v : Int) (b : Nat) (c : Int) (w : World) (hB : Boxed w b 90 (.int .u64 c)) :
  Calls Tryz.prog 103 #[.int .u64 v, .pointer (some ⟨b, 0, none⟩)] w fun e w' => e = .returned (.int .u32 (IntKind.u64.wrap (c + v) % 4294967296)) ∧
   w' = (w.setCell ⟨b, 0, none⟩ (.int .u64 (IntKind.u64.wrap (c + v)))).setCell ⟨b, 0, none⟩ (.int .u64 (IntKind.u64.wrap (c + v) / 4294967296)) := by
 have hc := hB.cell
 have hf := hB.frozen
 go_enter Tryz.func103, Tryz.ntmps103
 go_wp2
 go_ret
 exact ⟨rfl, rfl⟩
theorem carrier_calls (w : World) : Calls Tryz.prog 78 #[] w fun e w' => e = .returned (.func (.func 103) #[] #[.pointer (some ⟨w.heap.size, 0, none⟩)]) ∧ w' = w.alloc (.cells #[.int .u64 0] 90) := by
 go_enter Tryz.func78, Tryz.ntmps78
 go_wp2
 go_ret
 exact ⟨rfl, rfl⟩
def vAt (a b : List Int) (i : Nat) : Int :=
 if i < a.length then (if i < b.length then IntKind.u64.wrap (IntKind.u64.wrap (IntKind.u64.wrap (rd a i)) + IntKind.u64.wrap (rd b i)) else IntKind.u64.wrap (IntKind.u64.wrap (rd a i))) else 0
def sumSt (a b : List Int) : Nat → List Int × Int
 | 0 => ([], 0)
 | i + 1 => ((sumSt a b i).1 ++ [IntKind.u64.wrap ((sumSt a b i).2 + vAt a b i) % 4294967296], IntKind.u64.wrap ((sumSt a b i).2 + vAt a b i) / 4294967296)
theorem sumSt_len (a b : List Int) (i : Nat) : (sumSt a b i).1.length = i := by
 induction i with
 | zero => rfl
 | succ i ih => simp [sumSt, ih]
def sumO (a b : List Int) : List Int := (sumSt a b (a.length + 1)).1
def wide_sum.f (l0 l1 : List Int) : Option (List Int) :=
 if l0.length ≤ 1000000 ∧ l1.length ≤ 1000000 then some (if l0.length < l1.length then sumO l1 l0 else sumO l0 l1) else none
theorem set_app (p : List Int) (x y : Int) (q : List Int) (i : Nat) (h : p.length = i) : (p ++ x :: q).set i y = p ++ y :: q := by
 subst h
 simp
theorem sum_step {w wr : World} {a b : List Int} {g bx cap i : Nat} (hi : i < a.length + 1) (hgx : g ≠ bx) (hgb : w.heap.size ≤ g) (hbb : w.heap.size ≤ bx)
  (hb : Boxed wr bx 90 (.int .u64 (sumSt a b i).2)) (hR : Kd.R (Kd.int .u32) 81 wr w.heap.size (fun _ => True) (.slice (some ⟨g, 0, none⟩) (a.length + 1) cap) ((sumSt a b i).1 ++ List.replicate (a.length + 1 - i) 0)) (hB : Below w.heap.size w wr) :
  ∃ W2, W2 = (wr.setCell ⟨bx, 0, none⟩ (.int .u64 (IntKind.u64.wrap ((sumSt a b i).2 + vAt a b i)))).setCell ⟨bx, 0, none⟩ (.int .u64 (IntKind.u64.wrap ((sumSt a b i).2 + vAt a b i) / 4294967296)) ∧
   (∃ x, W2.cell? ⟨g, i, none⟩ = some (.int .u32 x)) ∧ W2.frozen? ⟨g, i, none⟩ = false ∧
   Boxed (W2.setCell ⟨g, i, none⟩ (.int .u32 (IntKind.u64.wrap ((sumSt a b i).2 + vAt a b i) % 4294967296))) bx 90 (.int .u64 (sumSt a b (i + 1)).2) ∧
   Kd.R (Kd.int .u32) 81 (W2.setCell ⟨g, i, none⟩ (.int .u32 (IntKind.u64.wrap ((sumSt a b i).2 + vAt a b i) % 4294967296))) w.heap.size (fun _ => True) (.slice (some ⟨g, 0, none⟩) (a.length + 1) cap) ((sumSt a b (i + 1)).1 ++ List.replicate (a.length + 1 - (i + 1)) 0) ∧
   Below w.heap.size w (W2.setCell ⟨g, i, none⟩ (.int .u32 (IntKind.u64.wrap ((sumSt a b i).2 + vAt a b i) % 4294967296))) := by
 refine ⟨_, rfl, ?_⟩
 have ht : ∀ q, q ∈ (81 : Nat) :: (Kd.int .u32).E → q ≠ 90 := by
  intro q hq
  have : q = 81 := by simpa [Kd.int, Kd.scalar] using hq
  subst this
  decide
 have b1 := hb.set (.int .u64 (IntKind.u64.wrap ((sumSt a b i).2 + vAt a b i)))
 have b2 := b1.set (.int .u64 (IntKind.u64.wrap ((sumSt a b i).2 + vAt a b i) / 4294967296))
 have r1 := Kd.R_set hR hb ht 0 (.int .u64 (IntKind.u64.wrap ((sumSt a b i).2 + vAt a b i)))
 have r2 := Kd.R_set r1 b1 ht 0 (.int .u64 (IntKind.u64.wrap ((sumSt a b i).2 + vAt a b i) / 4294967296))
 obtain ⟨h1, h2⟩ := Kd.R_celln (0 : Int) r2 (i : Int) (by omega) (by omega)
 rw [Int.toNat_natCast] at h1 h2
 have r3 := Kd.R_putn r2 (i : Int) (IntKind.u64.wrap ((sumSt a b i).2 + vAt a b i) % 4294967296)
 rw [Int.toNat_natCast] at r3
 have e1 : List.replicate (a.length + 1 - i) (0 : Int) = 0 :: List.replicate (a.length + 1 - (i + 1)) 0 := by
  have : a.length + 1 - i = (a.length + 1 - (i + 1)) + 1 := by omega
  rw [this, List.replicate_succ]
 rw [e1, set_app _ _ _ _ _ (sumSt_len a b i)] at r3
 refine ⟨⟨_, h1⟩, h2, (Below.heap_setCell _ ⟨g, i, none⟩ _ bx (fun e => hgx e.symm)).trans b2, ?_, ?_⟩
 ·have e2 : (sumSt a b (i + 1)).1 ++ List.replicate (a.length + 1 - (i + 1)) 0 = (sumSt a b i).1 ++ (IntKind.u64.wrap ((sumSt a b i).2 + vAt a b i) % 4294967296) :: List.replicate (a.length + 1 - (i + 1)) 0 := by simp [sumSt]
  rw [e2]
  exact r3
 ·exact ((hB.setCell (p := ⟨bx, 0, none⟩) hbb _).setCell (p := ⟨bx, 0, none⟩) hbb _).setCell (p := ⟨g, i, none⟩) hgb _
set_option maxRecDepth 100000 in
set_option maxHeartbeats 4000000 in
theorem sum_main (A0 : Option Addr) (c0 : Nat) (l0 : List Int) (A1 : Option Addr) (c1 : Nat) (l1 : List Int) (w : World) (hr0 : Kd.C (Kd.int .u32) w A0 l0.length l0) (hc0 : l0.length ≤ c0) (hr1 : Kd.C (Kd.int .u32) w A1 l1.length l1) (hc1 : l1.length ≤ c1)
  (hz0 : l0.length ≤ 1000000) (hz1 : l1.length ≤ 1000000) (hlt : ¬ l0.length < l1.length) :
  Calls Tryz.prog 51 #[.slice A0 l0.length c0, .slice A1 l1.length c1] w fun e w' => ∃ v0_ : Value, e = .returned (v0_) ∧ Kd.R (Kd.int .u32) 81 w' w.heap.size (fun _ => True) v0_ (sumO l0 l1) ∧ Below w.heap.size w w' := by
 have hltI : ¬ (l0.length : Int) < (l1.length : Int) := by omega
 have hw1 : wrap64 ((l0.length : Int) + 1) = ((l0.length + 1 : Nat) : Int) := by unfold wrap64; omega
 have HR0 := Aside0.mk hr0
 have HR1 := Aside0.mk hr1
 clear hr0 hr1
 go_enter Tryz.func51, Tryz.ntmps51
 go_wp2_with (first | ((with_reducible refine gate_dst (N := 19) rfl ?_); refine Kd.R_make (Kd.int .u32) _ 81 rfl (N := 19) rfl 31 _ _ rfl ((l0.length : Int) + 1) rfl rfl Tryz.underlying31 (.int .u32 0) 4 info81 rfl (by decide) (by omega) 0 (ok := fun _ => True) (okp := fun _ => True) rfl (fun _ hk => hk) trivial (by omega) (by omega) (Below.refl _ _) (Nat.le_refl _) ?_; intro v414 w6 ho7 hb hg_ hnew_))
 have en : ((l0.length : Int) + 1).toNat = l0.length + 1 := by omega
 rw [en] at ho7
 refine (carrier_calls _).mono ?_
 rintro e w7 ⟨rfl, rfl⟩
 have hbx := Boxed.new w6 90 (.int .u64 0)
 have hR := Kd.R_alloc ho7 (.cells #[.int .u64 0] 90)
 have hB0 := hb.alloc (o := .cells #[.int .u64 0] 90) hb.size
 obtain ⟨bx, hbxe⟩ : ∃ bx, w6.heap.size = bx := ⟨_, rfl⟩
 rw [hbxe] at hbx
 have hbase : w.heap.size ≤ bx := by rw [← hbxe]; exact hb.size
 clear hg_ hnew_ ho7 hb
 obtain ⟨g, cap, rfl, hgb, _, cells, hgc⟩ := Kd.R_form hR (by simp)
 rw [List.length_replicate] at hR ⊢
 have hgx : g ≠ bx := by
  rintro rfl
  rw [show _ = _ from hbx] at hgc
  injection hgc with h1
  injection h1 with h1 h2 h3
  exact absurd h2 (by decide)
 clear hgc cells
 have W1 := hw1
 clear hw1
 go_wp2_with fail
 go_loopw [23] (fun v wr => ∃ i : Nat, v = .int .i64 i ∧ i ≤ l0.length + 1 ∧ Boxed wr bx 90 (.int .u64 (sumSt l0 l1 i).2) ∧ Aside0 (Kd.R (Kd.int .u32) 81 wr w.heap.size (fun _ => True) (.slice (some ⟨g, 0, none⟩) (l0.length + 1) cap) ((sumSt l0 l1 i).1 ++ List.replicate (l0.length + 1 - i) 0)) ∧ Aside0 (Below w.heap.size w wr))
  (fun v wr => l0.length + 1 - (intOf v).toNat)
 case atStart => exact ⟨0, by rfl, Nat.zero_le _, hbx, ⟨hR⟩, ⟨hB0⟩⟩
 case round =>
  obtain ⟨i, rfl, hi, hb, HRR, HB⟩ := hrel
  clear hbx hR hB0 hbxe
  by_cases hlast : i < l0.length + 1
  ·have hib : (i : Int) < (l0.length : Int) + 1 := by omega
   obtain ⟨W2, hW2, ⟨xg, hxg⟩, hfg, hb', hR', hB'⟩ := sum_step hlast hgx hgb hbase hb HRR.out HB.out
   have HW2 := Aside0.mk hW2
   have HR' := Aside0.mk hR'
   have HB' := Aside0.mk hB'
   have Hb' := Aside0.mk hb'
   clear hW2 hR' hB' hb'
   by_cases h0 : i < l0.length
   ·have h0I : (i : Int) < (l0.length : Int) := by omega
    obtain ⟨ad0, e0, hx0⟩ := Kd.at_int HR0.out (i : Int) (by omega) (by omega)
    cases e0
    replace hx0 := (HB.out.cell (World.block_lt_of_cell? w _ hx0)).trans hx0
    rw [Int.toNat_natCast] at hx0
    by_cases h1 : i < l1.length
    ·have h1I : (i : Int) < (l1.length : Int) := by omega
     obtain ⟨ad1, e1, hx1⟩ := Kd.at_int HR1.out (i : Int) (by omega) (by omega)
     cases e1
     replace hx1 := (HB.out.cell (World.block_lt_of_cell? w _ hx1)).trans hx1
     rw [Int.toNat_natCast] at hx1
     have ev : vAt l0 l1 i = IntKind.u64.wrap (IntKind.u64.wrap (IntKind.u64.wrap (rd l0 i)) + IntKind.u64.wrap (rd l1 i)) := by unfold vAt; rw [if_pos h0, if_pos h1]
     rw [ev] at HW2 HR' HB' Hb'
     go_wp2_with fail
     refine (carrier1_calls _ bx _ _ hb).mono ?_
     rintro e w9 ⟨rfl, hw9⟩
     rw [← HW2.out] at hw9
     subst hw9
     go_wp2_with fail
     go_roundw
     case rel => exact ⟨i + 1, by rfl, by omega, Hb'.out, HR', HB'⟩
     case measure => simp [intOf]; omega
    ·have h1I : ¬ (i : Int) < (l1.length : Int) := by omega
     have ev : vAt l0 l1 i = IntKind.u64.wrap (IntKind.u64.wrap (rd l0 i)) := by unfold vAt; rw [if_pos h0, if_neg h1]
     rw [ev] at HW2 HR' HB' Hb'
     go_wp2_with fail
     refine (carrier1_calls _ bx _ _ hb).mono ?_
     rintro e w9 ⟨rfl, hw9⟩
     rw [← HW2.out] at hw9
     subst hw9
     go_wp2_with fail
     go_roundw
     case rel => exact ⟨i + 1, by rfl, by omega, Hb'.out, HR', HB'⟩
     case measure => simp [intOf]; omega
   ·have h0I : ¬ (i : Int) < (l0.length : Int) := by omega
    have h1I : ¬ (i : Int) < (l1.length : Int) := by omega
    have ev : vAt l0 l1 i = 0 := by unfold vAt; rw [if_neg h0]
    rw [ev] at HW2 HR' HB' Hb'
    go_wp2_with fail
    refine (carrier1_calls _ bx _ _ hb).mono ?_
    rintro e w9 ⟨rfl, hw9⟩
    rw [← HW2.out] at hw9
    subst hw9
    rw [Int.add_zero] at HR' HB' Hb'
    go_wp2_with fail
    go_roundw
    case rel => exact ⟨i + 1, by rfl, by omega, Hb'.out, HR', HB'⟩
    case measure => simp [intOf]; omega
  ·obtain rfl : i = l0.length + 1 := by omega
   have hib : ¬ ((l0.length + 1 : Nat) : Int) < (l0.length : Int) + 1 := by omega
   go_wp2_with fail
   go_ret
   refine ⟨_, rfl, ?_, HB.out⟩
   have h := HRR.out
   have e : l0.length + 1 - (l0.length + 1) = 0 := by omega
   rw [e, List.replicate_zero, List.append_nil] at h
   exact h
set_option maxRecDepth 100000 in
set_option maxHeartbeats 4000000 in
theorem sum_swap (A0 : Option Addr) (c0 : Nat) (l0 : List Int) (A1 : Option Addr) (c1 : Nat) (l1 : List Int) (w : World) (hr0 : Kd.C (Kd.int .u32) w A0 l0.length l0) (hc0 : l0.length ≤ c0) (hr1 : Kd.C (Kd.int .u32) w A1 l1.length l1) (hc1 : l1.length ≤ c1)
  (hz0 : l0.length ≤ 1000000) (hz1 : l1.length ≤ 1000000) (hlt : l1.length < l0.length) :
  Calls Tryz.prog 51 #[.slice A1 l1.length c1, .slice A0 l0.length c0] w fun e w' => ∃ v0_ : Value, e = .returned (v0_) ∧ Kd.R (Kd.int .u32) 81 w' w.heap.size (fun _ => True) v0_ (sumO l0 l1) ∧ Below w.heap.size w w' := by
 have hltI : (l1.length : Int) < (l0.length : Int) := by omega
 have hw1 : wrap64 ((l0.length : Int) + 1) = ((l0.length + 1 : Nat) : Int) := by unfold wrap64; omega
 have HR0 := Aside0.mk hr0
 have HR1 := Aside0.mk hr1
 clear hr0 hr1
 go_enter Tryz.func51, Tryz.ntmps51
 go_wp2_with (first | ((with_reducible refine gate_dst (N := 19) rfl ?_); refine Kd.R_make (Kd.int .u32) _ 81 rfl (N := 19) rfl 31 _ _ rfl ((l0.length : Int) + 1) rfl rfl Tryz.underlying31 (.int .u32 0) 4 info81 rfl (by decide) (by omega) 0 (ok := fun _ => True) (okp := fun _ => True) rfl (fun _ hk => hk) trivial (by omega) (by omega) (Below.refl _ _) (Nat.le_refl _) ?_; intro v414 w6 ho7 hb hg_ hnew_))
 have en : ((l0.length : Int) + 1).toNat = l0.length + 1 := by omega
 rw [en] at ho7
 refine (carrier_calls _).mono ?_
 rintro e w7 ⟨rfl, rfl⟩
 have hbx := Boxed.new w6 90 (.int .u64 0)
 have hR := Kd.R_alloc ho7 (.cells #[.int .u64 0] 90)
 have hB0 := hb.alloc (o := .cells #[.int .u64 0] 90) hb.size
 obtain ⟨bx, hbxe⟩ : ∃ bx, w6.heap.size = bx := ⟨_, rfl⟩
 rw [hbxe] at hbx
 have hbase : w.heap.size ≤ bx := by rw [← hbxe]; exact hb.size
 clear hg_ hnew_ ho7 hb
 obtain ⟨g, cap, rfl, hgb, _, cells, hgc⟩ := Kd.R_form hR (by simp)
 rw [List.length_replicate] at hR ⊢
 have hgx : g ≠ bx := by
  rintro rfl
  rw [show _ = _ from hbx] at hgc
  injection hgc with h1
  injection h1 with h1 h2 h3
  exact absurd h2 (by decide)
 clear hgc cells
 have W1 := hw1
 clear hw1
 go_wp2_with fail
 go_loopw [23] (fun v wr => ∃ i : Nat, v = .int .i64 i ∧ i ≤ l0.length + 1 ∧ Boxed wr bx 90 (.int .u64 (sumSt l0 l1 i).2) ∧ Aside0 (Kd.R (Kd.int .u32) 81 wr w.heap.size (fun _ => True) (.slice (some ⟨g, 0, none⟩) (l0.length + 1) cap) ((sumSt l0 l1 i).1 ++ List.replicate (l0.length + 1 - i) 0)) ∧ Aside0 (Below w.heap.size w wr))
  (fun v wr => l0.length + 1 - (intOf v).toNat)
 case atStart => exact ⟨0, by rfl, Nat.zero_le _, hbx, ⟨hR⟩, ⟨hB0⟩⟩
 case round =>
  obtain ⟨i, rfl, hi, hb, HRR, HB⟩ := hrel
  clear hbx hR hB0 hbxe
  by_cases hlast : i < l0.length + 1
  ·have hib : (i : Int) < (l0.length : Int) + 1 := by omega
   obtain ⟨W2, hW2, ⟨xg, hxg⟩, hfg, hb', hR', hB'⟩ := sum_step hlast hgx hgb hbase hb HRR.out HB.out
   have HW2 := Aside0.mk hW2
   have HR' := Aside0.mk hR'
   have HB' := Aside0.mk hB'
   have Hb' := Aside0.mk hb'
   clear hW2 hR' hB' hb'
   by_cases h0 : i < l0.length
   ·have h0I : (i : Int) < (l0.length : Int) := by omega
    obtain ⟨ad0, e0, hx0⟩ := Kd.at_int HR0.out (i : Int) (by omega) (by omega)
    cases e0
    replace hx0 := (HB.out.cell (World.block_lt_of_cell? w _ hx0)).trans hx0
    rw [Int.toNat_natCast] at hx0
    by_cases h1 : i < l1.length
    ·have h1I : (i : Int) < (l1.length : Int) := by omega
     obtain ⟨ad1, e1, hx1⟩ := Kd.at_int HR1.out (i : Int) (by omega) (by omega)
     cases e1
     replace hx1 := (HB.out.cell (World.block_lt_of_cell? w _ hx1)).trans hx1
     rw [Int.toNat_natCast] at hx1
     have ev : vAt l0 l1 i = IntKind.u64.wrap (IntKind.u64.wrap (IntKind.u64.wrap (rd l0 i)) + IntKind.u64.wrap (rd l1 i)) := by unfold vAt; rw [if_pos h0, if_pos h1]
     rw [ev] at HW2 HR' HB' Hb'
     go_wp2_with fail
     refine (carrier1_calls _ bx _ _ hb).mono ?_
     rintro e w9 ⟨rfl, hw9⟩
     rw [← HW2.out] at hw9
     subst hw9
     go_wp2_with fail
     go_roundw
     case rel => exact ⟨i + 1, by rfl, by omega, Hb'.out, HR', HB'⟩
     case measure => simp [intOf]; omega
    ·have h1I : ¬ (i : Int) < (l1.length : Int) := by omega
     have ev : vAt l0 l1 i = IntKind.u64.wrap (IntKind.u64.wrap (rd l0 i)) := by unfold vAt; rw [if_pos h0, if_neg h1]
     rw [ev] at HW2 HR' HB' Hb'
     go_wp2_with fail
     refine (carrier1_calls _ bx _ _ hb).mono ?_
     rintro e w9 ⟨rfl, hw9⟩
     rw [← HW2.out] at hw9
     subst hw9
     go_wp2_with fail
     go_roundw
     case rel => exact ⟨i + 1, by rfl, by omega, Hb'.out, HR', HB'⟩
     case measure => simp [intOf]; omega
   ·have h0I : ¬ (i : Int) < (l0.length : Int) := by omega
    have h1I : ¬ (i : Int) < (l1.length : Int) := by omega
    have ev : vAt l0 l1 i = 0 := by unfold vAt; rw [if_neg h0]
    rw [ev] at HW2 HR' HB' Hb'
    go_wp2_with fail
    refine (carrier1_calls _ bx _ _ hb).mono ?_
    rintro e w9 ⟨rfl, hw9⟩
    rw [← HW2.out] at hw9
    subst hw9
    rw [Int.add_zero] at HR' HB' Hb'
    go_wp2_with fail
    go_roundw
    case rel => exact ⟨i + 1, by rfl, by omega, Hb'.out, HR', HB'⟩
    case measure => simp [intOf]; omega
  ·obtain rfl : i = l0.length + 1 := by omega
   have hib : ¬ ((l0.length + 1 : Nat) : Int) < (l0.length : Int) + 1 := by omega
   go_wp2_with fail
   go_ret
   refine ⟨_, rfl, ?_, HB.out⟩
   have h := HRR.out
   have e : l0.length + 1 - (l0.length + 1) = 0 := by omega
   rw [e, List.replicate_zero, List.append_nil] at h
   exact h
theorem wide_sum.calls (A0 : Option Addr) (c0 : Nat) (l0 : List Int) (A1 : Option Addr) (c1 : Nat) (l1 : List Int) (r : List Int) (w : World) (hr0 : Kd.C (Kd.int .u32) w A0 l0.length l0) (hc0 : l0.length ≤ c0) (hr1 : Kd.C (Kd.int .u32) w A1 l1.length l1) (hc1 : l1.length ≤ c1) (h : wide_sum.f l0 l1 = some r) :
  Calls Tryz.prog 51 #[.slice A0 l0.length c0, .slice A1 l1.length c1] w fun e w' => ∃ v0_ : Value, e = .returned (v0_) ∧ Kd.R (Kd.int .u32) 81 w' w.heap.size (fun _ => True) v0_ r ∧ Below w.heap.size w w' := by
 unfold wide_sum.f at h
 split at h
 case isFalse => cases h
 case isTrue hz =>
 cases h
 by_cases hlt : l0.length < l1.length
 ·rw [if_pos hlt]
  exact sum_swap A1 c1 l1 A0 c0 l0 w hr1 hc1 hr0 hc0 hz.2 hz.1 hlt
 ·rw [if_neg hlt]
  exact sum_main A0 c0 l0 A1 c1 l1 w hr0 hc0 hr1 hc1 hz.1 hz.2 hlt
end Go.Proofs.YtlceokefdihdkaaGreatDoor.X
