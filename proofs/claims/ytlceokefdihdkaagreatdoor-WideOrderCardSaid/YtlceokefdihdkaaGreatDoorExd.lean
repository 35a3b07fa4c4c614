import Derived.Test.YtlceokefdihdkaaGreatDoorXx0
import Derived.Test.YtlceokefdihdkaaGreatDoorYx1
import Derived.WalkMore
namespace Go.Proofs.YtlceokefdihdkaaGreatDoor.X
open Go.RowKit Go.Proofs.YtlceokefdihdkaaGreatDoorW.PrintWords Go.Proofs.YtlceokefdihdkaaGreatDoorW.PrintLast Go.Proofs.YtlceokefdihdkaaGreatDoorW.PrintMore
set_option linter.unusedSimpArgs false
set_option linter.unusedVariables false
set_option maxRecDepth 100000 in
set_option maxHeartbeats 400000 in
theorem div_less (P0_ : Nat → Prop) (A0 : Option Addr) (c0 : Nat) (l0 : List Int) (A1 : Option Addr) (c1 : Nat) (l1 : List Int) (c : Int) (K : Nat) (w : World) (hs0 : Kd.V (Kd.int .u32) 81 w w.heap.size (fun k_ => P0_ k_) (.slice A0 l0.length c0) l0)
  (hr1 : Kd.C (Kd.int .u32) w A1 l1.length l1) (hc1 : l1.length ≤ c1) (hc : Y.wide_compare.f K l0 l1 = some c) (hneg : c < 0) :
  Calls Tryz.prog 64 #[.slice A0 l0.length c0, .slice A1 l1.length c1] w fun e w' => ∃ v0_ v1_ : Value, e = .returned (.tuple #[v0_, v1_]) ∧ Kd.V (Kd.int .u32) 81 w' w.heap.size (fun k_ => (P0_ k_ ∨ w.heap.size ≤ k_)) v0_ [] ∧ Kd.V (Kd.int .u32) 81 w' w.heap.size (fun k_ => (P0_ k_ ∨ w.heap.size ≤ k_)) v1_ l0 ∧ Below w.heap.size w w' := by
 have hv := Kd.V_reads' hs0
 go_enter Tryz.func64, Tryz.ntmps64
 go_wp2_with fail
 go_step3
 go_wp2_with fail
 refine (Y.wide_compare.calls K A0 c0 l0 A1 c1 l1 c w hv.2.2 hv.2.1 hr1 hc1 hc).mono ?_
 rintro e w1 ⟨rfl, nd, rfl⟩
 go_wp2_with fail
 first | rw [Exit.noGoto_ret] | skip
 go_ret2
 refine ⟨_, _, rfl, ?_, ?_, pw_below_drewN (Below.refl _ _) _⟩
 ·exact Kd.V_nil _ _ _ _ _
 ·exact Kd.V_drewN (Kd.V_mono hs0 (fun k_ hk => Or.inl hk)) _
theorem lit_one (W : World) (r : Int) (b : Nat) (hb : b ≤ W.heap.size) {base : Nat} : Kd.V (Kd.int .u32) 81 (W.alloc (.cells #[.int .u32 r] 81)) base (fun k_ => b ≤ k_) (.slice (some ⟨W.heap.size, 0, none⟩) 1 1) [r] := by
 refine Kd.V_mk (xs := [r]) (by simp) ?_
 intro W' hW
 have h1 := hW W.heap.size hb (by simp)
 have h2 : W'.heap[W.heap.size]? = some (.cells #[.int .u32 r] 81 (0, 0)) := by rw [h1]; unfold World.alloc; exact Array.getElem?_push_size ..
 refine ⟨rfl, by simp, fun _ => ⟨_, rfl, ?_⟩⟩
 intro j p hj
 have hj0 : j = 0 := by
  rcases Nat.eq_zero_or_pos j with h | h
  ·exact h
  ·rw [List.getElem?_eq_none (by simp; omega)] at hj; cases hj
 subst hj0
 have hp : r = p := by simpa using hj
 subst hp
 refine ⟨[.int .u32 r], rfl, rfl, fun i u hu => ?_⟩
 have hi0 : i = 0 := by
  rcases Nat.eq_zero_or_pos i with h | h
  ·exact h
  ·rw [List.getElem?_eq_none (by simp; omega)] at hu; cases hu
 subst hi0
 have hu' : Value.int .u32 r = u := by simpa using hu
 subst hu'
 simp [World.cell?, Addr.add, h2]
set_option maxRecDepth 100000 in
set_option maxHeartbeats 400000 in
theorem div_one (P0_ : Nat → Prop) (A0 : Option Addr) (c0 : Nat) (l0 : List Int) (A1 : Option Addr) (c1 : Nat) (l1 : List Int) (c : Int) (K : Nat) (q q' r' : List Int) (r : Int) (w : World) (hs0 : Kd.V (Kd.int .u32) 81 w w.heap.size (fun k_ => P0_ k_) (.slice A0 l0.length c0) l0)
  (hr1 : Kd.C (Kd.int .u32) w A1 l1.length l1) (hc1 : l1.length ≤ c1) (hc : Y.wide_compare.f K l0 l1 = some c) (hneg : ¬ c < 0) (hone : l1.length = 1)
  (hsh : Y.wide_short.f K l0 (rd l1 0) = some (q, r)) (hq : Y.wide_normal.f K q = some q') (hr : Y.wide_normal.f K [r] = some r') :
  Calls Tryz.prog 64 #[.slice A0 l0.length c0, .slice A1 l1.length c1] w fun e w' => ∃ v0_ v1_ : Value, e = .returned (.tuple #[v0_, v1_]) ∧ Kd.V (Kd.int .u32) 81 w' w.heap.size (fun k_ => (P0_ k_ ∨ w.heap.size ≤ k_)) v0_ q' ∧ Kd.V (Kd.int .u32) 81 w' w.heap.size (fun k_ => (P0_ k_ ∨ w.heap.size ≤ k_)) v1_ r' ∧ Below w.heap.size w w' := by
 have hv := Kd.V_reads' hs0
 have hneg' : 0 ≤ c := by omega
 have honeI : (l1.length : Int) = 1 := by omega
 obtain ⟨ad1, e1, hx1⟩ := Kd.at_int hr1 0 (by omega) (by omega)
 cases e1
 have HV := Aside0.mk hv.2.2
 have HR1 := Aside0.mk hr1
 have HN := Aside0.mk hv.2.1
 clear hv hr1
 have hx1' : w.cell? ad1 = some (.int .u32 (rd l1 0)) := by
  have e2 : ad1.add ((0 : Int).toNat) = ad1 := by simp [Addr.add]
  rw [← e2]
  exact hx1
 clear hx1
 have HONE := Aside0.mk hone
 clear hone honeI
 go_enter Tryz.func64, Tryz.ntmps64
 go_wp2_with fail
 go_step3
 go_wp2_with fail
 refine (Y.wide_compare.calls K A0 c0 l0 (some ad1) c1 l1 c w HV.out HN.out HR1.out hc1 hc).mono ?_
 rintro e w1 ⟨rfl, nd, rfl⟩
 have honeI : (l1.length : Int) = 1 := by rw [HONE.out]; rfl
 go_wp2_with fail
 refine (Y.wide_short.calls K A0 c0 l0 (rd l1 0) q r _ (Kd.C_drewN HV.out _) HN.out hsh).mono ?_
 rintro e w3 ⟨vq, rfl, hRq, hb3⟩
 obtain ⟨Aq, cq, rfl⟩ := Kd.R_slice hRq
 have hVq := Kd.R_V (base' := w3.heap.size) (Kd.R_mono (Kd.R_bound hRq) (fun k_ hk => (show w.heap.size ≤ k_ from Nat.le_trans (by simp) hk.2.1)))
 have HVQ := Aside0.mk hVq
 clear hVq hRq
 go_wp2_with fail
 refine (Y.wide_normal.calls K (fun k_ => w.heap.size ≤ k_) Aq cq q q' w3 HVQ.out hq).mono ?_
 rintro e w4 ⟨vq', rfl, hVq', hb4⟩
 go_wp2_with fail
 have hb3w : Below w.heap.size w w3 := (pw_below_drewN (Below.refl w.heap.size w) nd).trans (hb3.mono (by simp))
 have hb4' : Below w.heap.size w w4 := hb3w.trans (hb4.mono hb3w.size)
 have hVq2 := Kd.V_mono hVq' (ok' := fun k_ => P0_ k_ ∨ w.heap.size ≤ k_) (fun k_ hk => .inr (hk.elim id (fun h_ => Nat.le_trans hb3w.size h_)))
 have HB4 := Aside0.mk hb4'
 have HVQ2 := Aside0.mk hVq2
 clear hb4' hVq2 hVq' hb4 hb3 hb3w
 refine (Y.wide_normal.calls K (fun k_ => w.heap.size ≤ k_) (some ⟨w4.heap.size, 0, none⟩) 1 [r] r' _ (lit_one w4 r w.heap.size HB4.out.size) hr).mono ?_
 rintro e w5 ⟨vr, rfl, hVr, hb5⟩
 go_wp2_with fail
 rw [Exit.noGoto_ret]
 go_ret2
 have hb5' : Below w.heap.size w w5 := (HB4.out.alloc HB4.out.size _).trans (hb5.mono (by have := HB4.out.size; simp; omega))
 refine ⟨_, _, rfl, ?_, ?_, hb5'⟩
 ·exact Kd.V_below (Kd.V_alloc HVQ2.out _) hb5
 ·exact Kd.V_mono hVr (fun k_ hk => .inr (hk.elim id (fun h_ => Nat.le_trans (Nat.le_trans HB4.out.size (by simp)) h_)))
def K0 : Nat := 1000000
def wide_divide.f (l0 l1 : List Int) : Option (List Int × List Int) :=
 (Y.wide_compare.f K0 l0 l1).bind fun c => if c < 0 then some ([], l0) else if l1.length = 1 then
  (Y.wide_short.f K0 l0 (rd l1 0)).bind fun qr => (Y.wide_normal.f K0 qr.1).bind fun q' => (Y.wide_normal.f K0 [qr.2]).bind fun r' => some (q', r')
 else none
theorem wide_divide.calls (P0_ : Nat → Prop) (A0 : Option Addr) (c0 : Nat) (l0 : List Int) (A1 : Option Addr) (c1 : Nat) (l1 : List Int) (r1 r2 : List Int) (w : World) (hs0 : Kd.V (Kd.int .u32) 81 w w.heap.size (fun k_ => P0_ k_) (.slice A0 l0.length c0) l0)
  (hr1 : Kd.C (Kd.int .u32) w A1 l1.length l1) (hc1 : l1.length ≤ c1) (h : wide_divide.f l0 l1 = some (r1, r2)) :
  Calls Tryz.prog 64 #[.slice A0 l0.length c0, .slice A1 l1.length c1] w fun e w' => ∃ v0_ v1_ : Value, e = .returned (.tuple #[v0_, v1_]) ∧ Kd.V (Kd.int .u32) 81 w' w.heap.size (fun k_ => (P0_ k_ ∨ w.heap.size ≤ k_)) v0_ r1 ∧ Kd.V (Kd.int .u32) 81 w' w.heap.size (fun k_ => (P0_ k_ ∨ w.heap.size ≤ k_)) v1_ r2 ∧ Below w.heap.size w w' := by
 unfold wide_divide.f at h
 obtain ⟨c, hc, h⟩ := Option.bind_eq_some_iff.mp h
 by_cases hneg : c < 0
 ·rw [if_pos hneg] at h
  injection h with h
  injection h with h1 h2
  subst h1 h2
  exact div_less P0_ A0 c0 l0 A1 c1 l1 c K0 w hs0 hr1 hc1 hc hneg
 ·rw [if_neg hneg] at h
  by_cases hone : l1.length = 1
  ·rw [if_pos hone] at h
   obtain ⟨⟨q, r⟩, hsh, h⟩ := Option.bind_eq_some_iff.mp h
   obtain ⟨q', hq, h⟩ := Option.bind_eq_some_iff.mp h
   obtain ⟨r', hr, h⟩ := Option.bind_eq_some_iff.mp h
   injection h with h
   injection h with h1 h2
   subst h1 h2
   exact div_one P0_ A0 c0 l0 A1 c1 l1 c K0 q q' r' r w hs0 hr1 hc1 hc hneg hone hsh hq hr
  ·rw [if_neg hone] at h
   cases h
end Go.Proofs.YtlceokefdihdkaaGreatDoor.X
