import Derived.Test.YtlceokefdihdkaaGreatDoorXx0
import Derived.WalkMore
namespace Go.Proofs.YtlceokefdihdkaaGreatDoor.X
open Go.RowKit Go.Proofs.YtlceokefdihdkaaGreatDoorW.PrintWords Go.Proofs.YtlceokefdihdkaaGreatDoorW.PrintLast Go.Proofs.YtlceokefdihdkaaGreatDoorW.PrintMore
set_option linter.unusedSimpArgs false
set_option linter.unusedVariables false
def wide_Neg.f (a0_0 : Bool) (l0_1 : List Int) : Option (Bool × List Int) := some (!a0_0 && decide (0 < l0_1.length), l0_1)
set_option maxRecDepth 100000 in
set_option maxHeartbeats 400000 in
theorem wide_Neg.calls (a0_0 : Bool) (P0_1_ : Nat → Prop) (A0_1 : Option Addr) (c0_1 : Nat) (l0_1 : List Int) (r1 : Bool) (r2 : List Int) (w : World) (hs0_1 : Kd.V (Kd.int .u32) 81 w w.heap.size (fun k_ => P0_1_ k_) (.slice A0_1 l0_1.length c0_1) l0_1) (h : wide_Neg.f a0_0 l0_1 = some (r1, r2)) :
  Calls Tryz.prog 40 #[.agg #[.bool a0_0, .slice A0_1 l0_1.length c0_1]] w fun e w' => ∃ v1_ : Value, e = .returned (.agg #[.bool r1, v1_]) ∧ Kd.V (Kd.int .u32) 81 w' w.heap.size (fun k_ => (P0_1_ k_ ∨ w.heap.size ≤ k_)) v1_ r2 ∧ Below w.heap.size w w' := by
 have HS := Aside0.mk hs0_1
 clear hs0_1
 unfold wide_Neg.f at h
 simp only [Option.some.injEq, Prod.mk.injEq] at h
 obtain ⟨rfl, rfl⟩ := h
 have hb : ∀ o1 o2 : Obj, Below w.heap.size w ((w.alloc o1).alloc o2) := fun o1 o2 => ((Below.refl _ _).alloc (Nat.le_refl _) _).alloc (by simp) _
 have HB := Aside0.mk hb
 clear hb
 cases a0_0 with
 | true =>
  go_enter Tryz.func40, Tryz.ntmps40
  go_wp2_with fail
  exact bodyPost_ret (v := .agg #[.bool false, .slice A0_1 l0_1.length c0_1]) (by simp [results, Tryz.results40, go_sem]) rfl ⟨_, rfl, Kd.V_mono (Kd.V_below HS.out (HB.out _ _)) (fun _ hk => .inl hk), HB.out _ _⟩
 | false =>
  by_cases hl : 0 < l0_1.length
  ·have hlI : (0 : Int) < (l0_1.length : Int) := by omega
   go_enter Tryz.func40, Tryz.ntmps40
   go_wp2_with fail
   exact bodyPost_ret (v := .agg #[.bool true, .slice A0_1 l0_1.length c0_1]) (by simp [results, Tryz.results40, go_sem]) rfl ⟨_, by simp [hl], Kd.V_mono (Kd.V_below HS.out (HB.out _ _)) (fun _ hk => .inl hk), HB.out _ _⟩
  ·have hlI : ¬ (0 : Int) < (l0_1.length : Int) := by omega
   go_enter Tryz.func40, Tryz.ntmps40
   go_wp2_with fail
   exact bodyPost_ret (v := .agg #[.bool false, .slice A0_1 l0_1.length c0_1]) (by simp [results, Tryz.results40, go_sem]) rfl ⟨_, by simp [hl], Kd.V_mono (Kd.V_below HS.out (HB.out _ _)) (fun _ hk => .inl hk), HB.out _ _⟩
end Go.Proofs.YtlceokefdihdkaaGreatDoor.X
