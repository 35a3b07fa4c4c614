-- Written by a program of this session (xprint) out of the translation: Lean checks it.
import Derived.Test.YtlceokefdihdkaaGreatDoorXx0
import Derived.Test.YtlceokefdihdkaaGreatDoorXx2
import Derived.Test.YtlceokefdihdkaaGreatDoorXx4
import Derived.Test.YtlceokefdihdkaaGreatDoorExa
import Derived.Test.YtlceokefdihdkaaGreatDoorExp
namespace Go.Proofs.YtlceokefdihdkaaGreatDoor.X
open Go.RowKit Go.Proofs.YtlceokefdihdkaaGreatDoorW.PrintWords Go.Proofs.YtlceokefdihdkaaGreatDoorW.PrintLast Go.Proofs.YtlceokefdihdkaaGreatDoorW.PrintMore
attribute [local go_sem] max2_int min2_int max_two min_two max_three min_three max_four min_four   -- for this text's walks alone
set_option linter.unusedVariables false
set_option linter.unusedSimpArgs false

/-! ### wide_times: function 52 -/
mutual
def wide_times.l0 : Nat → List Int → List Int → List Int → Int → Int → Option (List Int)
 | 0, _, _, _, _, _ => none
 | k + 1, x1, x5, x18, x19, x20 => if x20 < x19 then (if 0 ≤ x20 then (if x20 < (x18.length : Int) then (wide_times.l1 k x1 x5 x20 (rd x18 x20) 0 x18 x19 x20 x1 (x1.length : Int) 0) else (none)) else (none)) else (some x5)
def wide_times.l1 : Nat → List Int → List Int → Int → Int → Int → List Int → Int → Int → List Int → Int → Int → Option (List Int)
 | 0, _, _, _, _, _, _, _, _, _, _, _ => none
 | k + 1, x1, x5, x6, x7, x8, x18, x19, x20, x25, x26, x27 => if x27 < x26 then (if 0 ≤ x27 then (if x27 < (x25.length : Int) then (if 0 ≤ (wrap64 (x6 + x27)) then (if (wrap64 (x6 + x27)) < (x5.length : Int) then (wide_times.l1 k x1 (x5.set ((wrap64 (x6 + x27)) : Int).toNat ((IntKind.u64.wrap ((IntKind.u64.wrap ((IntKind.u64.wrap ((IntKind.u64.wrap (x7)) * (IntKind.u64.wrap (rd x25 x27)))) + (IntKind.u64.wrap (rd x5 (wrap64 (x6 + x27)))))) + x8)) % 4294967296)) x6 x7 ((IntKind.u64.wrap ((IntKind.u64.wrap ((IntKind.u64.wrap ((IntKind.u64.wrap (x7)) * (IntKind.u64.wrap (rd x25 x27)))) + (IntKind.u64.wrap (rd x5 (wrap64 (x6 + x27)))))) + x8)) / 4294967296) x18 x19 x20 x25 x26 (wrap64 (x27 + 1))) else (none)) else (none)) else (none)) else (none)) else (if 0 ≤ (wrap64 (x6 + (x1.length : Int))) then (if (wrap64 (x6 + (x1.length : Int))) < (x5.length : Int) then (wide_times.l0 k x1 (x5.set ((wrap64 (x6 + (x1.length : Int))) : Int).toNat ((x8) % 4294967296)) x18 x19 (wrap64 (x20 + 1))) else (none)) else (none))
end
def wide_times.f (k : Nat) (l0 : List Int) (l1 : List Int) : Option (List Int) := if 0 ≤ (wrap64 ((l0.length : Int) + (l1.length : Int))) then (if (wrap64 ((l0.length : Int) + (l1.length : Int)) : Int).toNat ≤ 70368744177664 then (wide_times.l0 k l1 (List.replicate (wrap64 ((l0.length : Int) + (l1.length : Int)) : Int).toNat 0) l0 (l0.length : Int) 0) else (none)) else (none)
theorem wide_times.mono_l : ∀ k, (∀ y0 y1 y2 y3 y4, LeO (wide_times.l0 k y0 y1 y2 y3 y4) (wide_times.l0 (k + 1) y0 y1 y2 y3 y4)) ∧ (∀ y0 y1 y2 y3 y4 y5 y6 y7 y8 y9 y10, LeO (wide_times.l1 k y0 y1 y2 y3 y4 y5 y6 y7 y8 y9 y10) (wide_times.l1 (k + 1) y0 y1 y2 y3 y4 y5 y6 y7 y8 y9 y10))
 | 0 => ⟨fun _ _ _ _ _ r h => by simp [wide_times.l0] at h, fun _ _ _ _ _ _ _ _ _ _ _ r h => by simp [wide_times.l1] at h⟩
 | k + 1 => by
  obtain ⟨ih0, ih1⟩ := wide_times.mono_l k
  refine ⟨?_, ?_⟩
  ·intro y0 y1 y2 y3 y4
   unfold wide_times.l0
   repeat' first
   | (with_reducible exact ih0 _ _ _ _ _)
   | (with_reducible exact ih1 _ _ _ _ _ _ _ _ _ _ _)
   | (with_reducible exact LeO.refl _)
   | (with_reducible exact LeO.none _)
   | (with_reducible refine LeO.ite ?_ ?_)
   | (with_reducible refine LeO.bind ?_ (fun _ => ?_))
   | exact ih0 _ _ _ _ _
   | exact ih1 _ _ _ _ _ _ _ _ _ _ _
   | exact LeO.none _
   | refine LeO.ite ?_ ?_
   | refine LeO.bind ?_ (fun _ => ?_)
  ·intro y0 y1 y2 y3 y4 y5 y6 y7 y8 y9 y10
   unfold wide_times.l1
   repeat' first
   | (with_reducible exact ih0 _ _ _ _ _)
   | (with_reducible exact ih1 _ _ _ _ _ _ _ _ _ _ _)
   | (with_reducible exact LeO.refl _)
   | (with_reducible exact LeO.none _)
   | (with_reducible refine LeO.ite ?_ ?_)
   | (with_reducible refine LeO.bind ?_ (fun _ => ?_))
   | exact ih0 _ _ _ _ _
   | exact ih1 _ _ _ _ _ _ _ _ _ _ _
   | exact LeO.none _
   | refine LeO.ite ?_ ?_
   | refine LeO.bind ?_ (fun _ => ?_)
theorem wide_times.mono : ∀ a0 a1 k, LeO (wide_times.f k a0 a1) (wide_times.f (k + 1) a0 a1) := by
 intro a0 a1 k
 obtain ⟨ih0, ih1⟩ := wide_times.mono_l k
 unfold wide_times.f
 repeat' first
   | (with_reducible exact ih0 _ _ _ _ _)
   | (with_reducible exact ih1 _ _ _ _ _ _ _ _ _ _ _)
   | (with_reducible exact LeO.refl _)
   | (with_reducible exact LeO.none _)
   | (with_reducible refine LeO.ite ?_ ?_)
   | (with_reducible refine LeO.bind ?_ (fun _ => ?_))
   | exact ih0 _ _ _ _ _
   | exact ih1 _ _ _ _ _ _ _ _ _ _ _
   | exact LeO.none _
   | refine LeO.ite ?_ ?_
   | refine LeO.bind ?_ (fun _ => ?_)
set_option maxHeartbeats 8000000 in
set_option maxRecDepth 100000 in
theorem wide_times.calls (k : Nat) (A0 : Option Addr) (c0 : Nat) (l0 : List Int) (A1 : Option Addr) (c1 : Nat) (l1 : List Int) (r : List Int) (w : World) (hr0 : Kd.C (Kd.int .u32) w A0 l0.length l0) (hc0 : l0.length ≤ c0) (hr1 : Kd.C (Kd.int .u32) w A1 l1.length l1) (hc1 : l1.length ≤ c1) (h : wide_times.f k l0 l1 = some r) :
  Calls Tryz.prog 52 #[.slice A0 l0.length c0, .slice A1 l1.length c1] w fun e w' => ∃ v0_ : Value, e = .returned (v0_) ∧ Kd.R (Kd.int .u32) 81 w' w.heap.size (fun _ => True) v0_ r ∧ Below w.heap.size w w' := by
 have HR0 := am_ hr0
 have HC0 := am_ hc0
 clear hr0 hc0
 have HR1 := am_ hr1
 have HC1 := am_ hc1
 clear hr1 hc1
 have HB := am_ (Below.refl w.heap.size w)
 have H : (if 0 ≤ (wrap64 ((l0.length : Int) + (l1.length : Int))) then (if (wrap64 ((l0.length : Int) + (l1.length : Int)) : Int).toNat ≤ 70368744177664 then (wide_times.l0 k l1 (List.replicate (wrap64 ((l0.length : Int) + (l1.length : Int)) : Int).toNat 0) l0 (l0.length : Int) 0) else (none)) else (none)) = some r := h
 clear h
 obtain ⟨ji3, hji3⟩ : ∃ j_ : Int, (wrap64 ((l0.length : Int) + (l1.length : Int))) = j_ := ⟨_, rfl⟩
 replace H : (if 0 ≤ (ji3) then (if (ji3 : Int).toNat ≤ 70368744177664 then (wide_times.l0 k l1 (List.replicate (ji3 : Int).toNat 0) l0 (l0.length : Int) 0) else (none)) else (none)) = some r := by first | (rw [hji3] at H; exact H) | (simp only [hji3] at H ⊢; exact H)
 have hji3w : (IntKind.i64.wrap ((l0.length : Int) + (l1.length : Int))) = ji3 := (i64_w _).trans hji3
 by_cases c4 : 0 ≤ (ji3)
 ·rw [if_pos c4] at H
  have c4b0 := eq_true c4
  have c4b1 : decide (0 ≤ (ji3)) = true := decide_eq_true c4
  clear c4
  by_cases c5 : (ji3 : Int).toNat ≤ 70368744177664
  ·rw [if_pos c5] at H
   have c5b0 := eq_true c5
   have c5b1 : decide ((ji3 : Int).toNat ≤ 70368744177664) = true := decide_eq_true c5
   clear c5
   obtain ⟨y242, hy242⟩ : ∃ y_ : List Int, y_ = (List.replicate (ji3 : Int).toNat 0) := ⟨_, rfl⟩
   replace H : (wide_times.l0 k l1 y242 l0 (l0.length : Int) 0) = some r := by first | (rw [hy242]; with_reducible exact H) | (have H2_ := (Option.bind_some _ _).symm.trans H; rw [hy242]; with_reducible exact H2_) | (have H2_ := (Option.bind_some _ _).symm.trans H; with_reducible exact H2_) | with_reducible exact H | (rw [hy242]; exact H) | exact H
   have Ny242 := am_ hy242
   clear hy242
   have H' := am_ H
   clear H
   go_enter Tryz.func52, Tryz.ntmps52
   go_wp2_with (first | ((with_reducible refine gate_dst (N := 17) rfl ?_); refine Kd.R_make (Kd.int .u32) _ 81 rfl (N := 17) rfl 31 _ _ rfl ji3 rfl rfl Tryz.underlying31 (.int .u32 0) 4 info81 rfl (by decide) (by omega) 0 (ok := fun _ => True) (okp := fun _ => True) rfl (fun _ hk => hk) trivial (of_decide_eq_true zq3) (Nat.le_trans (Nat.mul_le_mul_right _ (of_decide_eq_true zq3 : ji3.toNat ≤ 70368744177664)) (by omega)) (Below.refl _ _) (Nat.le_refl _) ?_; intro v243 w6 ho7 hb hg_ hnew_; clear hg_ hnew_; (first | rw [← Ny242.out] at ho7 | (simp only [Int.reduceToNat] at ho7; rw [← Ny242.out] at ho7)); have HO244 := am_ (Kd.R_lower ho7 (below_size zq2)); replace HB := am_ (below_step zq2 hb); clear hb ho7))
   try simp only [Act.put, List.setIfInBounds_toArray, List.set_cons_zero, List.set_cons_succ]
   go_loopg [20] k (fun kq v20 w' => ∃ (x5_1 : List Int) (x20_1 : Int), v20 = .int .i64 x20_1 ∧ Aside0 (wide_times.l0 kq l1 x5_1 l0 (l0.length : Int) x20_1 = some r) ∧ Aside0 (kq ≤ k) ∧ Aside0 (Kd.R (Kd.int .u32) 81 w' w.heap.size (fun _ => True) v243 x5_1) ∧ Aside0 (Below w.heap.size w w'))
   case atStart => exact ⟨(y242), (0), zq0, H', ⟨Nat.le_refl _⟩, ⟨by (with_reducible repeat (first | apply Kd.R_alloc | apply Kd.R_drewN | apply Kd.R_drew)); exact HO244.out⟩, ⟨by repeat (first | (with_reducible first | exact HB.out | apply below_alloc | apply pw_below_drewN | apply below_drew1) | exact HB.out)⟩⟩
   case round =>
    clear H'
    try clear c1
    try clear p2
    try clear c4
    try clear c4b0
    try clear c4b1
    try clear c5
    try clear c5b0
    try clear c5b1
    try clear p6
    obtain ⟨x5_1, x20_1, rfl, HA, HK1, HO_5, HB⟩ := hrel
    cases gk with
    | zero => exact absurd HA.out (by simp [wide_times.l0])
    | succ k1 =>
     have H := HA.out
     clear HA
     simp only [wide_times.l0] at H
     by_cases c8 : x20_1 < (l0.length : Int)
     ·rw [if_pos c8] at H
      have c8b0 : decide (x20_1 < (l0.length : Int)) = true := decide_eq_true c8
      clear c8
      by_cases c9 : 0 ≤ x20_1
      ·rw [if_pos c9] at H
       have c9b0 : decide (0 ≤ x20_1) = true := decide_eq_true c9
       clear c9
       by_cases c10 : x20_1 < (l0.length : Int)
       ·rw [if_pos c10] at H
        have c10b0 : decide (x20_1 < (l0.length : Int)) = true := decide_eq_true c10
        clear c10
        have H' := am_ H
        clear H
        have p245 : 0 ≤ (x20_1 : Int) := of_decide_eq_true zq3
        have q245 : x20_1 < (l0.length : Int) := of_decide_eq_true zq3
        obtain ⟨ad245, e245, hx245_0⟩ := Kd.at_int HR0.out x20_1 p245 q245
        cases e245
        replace hx245_0 := (HB.out.cell (World.block_lt_of_cell? w _ hx245_0)).trans hx245_0
        replace p245 := eq_true p245
        replace q245 := eq_true q245
        go_wp2
        try simp only [Act.put, List.setIfInBounds_toArray, List.set_cons_zero, List.set_cons_succ]
        go_loopg [8, 27] k1 (fun kq v8 v27 w' => ∃ (x5_2 : List Int) (x8_2 : Int) (x27_2 : Int), v8 = .int .u64 x8_2 ∧ v27 = .int .i64 x27_2 ∧ Aside0 (wide_times.l1 kq l1 x5_2 x20_1 (rd l0 x20_1) x8_2 l0 (l0.length : Int) x20_1 l1 (l1.length : Int) x27_2 = some r) ∧ Aside0 (kq ≤ k1) ∧ Aside0 (Kd.R (Kd.int .u32) 81 w' w.heap.size (fun _ => True) v243 x5_2) ∧ Aside0 (Below w.heap.size w w'))
        case atStart => exact ⟨(x5_1), (0), (0), zq0, zq0, H', ⟨Nat.le_refl _⟩, ⟨by (with_reducible repeat (first | apply Kd.R_alloc | apply Kd.R_drewN | apply Kd.R_drew)); exact HO_5.out⟩, ⟨by repeat (first | (with_reducible first | exact HB.out | apply below_alloc | apply pw_below_drewN | apply below_drew1) | exact HB.out)⟩⟩
        case round =>
         clear H'
         try clear c1
         try clear p2
         try clear q2
         try clear hx2
         try clear c4
         try clear c4b0
         try clear c4b1
         try clear c5
         try clear c5b0
         try clear c5b1
         try clear p6
         try clear c8
         try clear c8b0
         try clear c9
         try clear c9b0
         try clear c10
         try clear c10b0
         try clear hx245_0
         try clear p2
         try clear p245
         try clear p6
         try clear q245
         obtain ⟨x5_2, x8_2, x27_2, rfl, rfl, HA, HK2, HO_5, HB⟩ := hrel
         cases gk with
         | zero => exact absurd HA.out (by simp [wide_times.l1])
         | succ k2 =>
          have H := HA.out
          clear HA
          simp only [wide_times.l1] at H
          by_cases c11 : x27_2 < (l1.length : Int)
          ·rw [if_pos c11] at H
           have c11b0 : decide (x27_2 < (l1.length : Int)) = true := decide_eq_true c11
           clear c11
           by_cases c12 : 0 ≤ x27_2
           ·rw [if_pos c12] at H
            have c12b0 : decide (0 ≤ x27_2) = true := decide_eq_true c12
            clear c12
            by_cases c13 : x27_2 < (l1.length : Int)
            ·rw [if_pos c13] at H
             have c13b0 : decide (x27_2 < (l1.length : Int)) = true := decide_eq_true c13
             clear c13
             obtain ⟨ji14, hji14⟩ : ∃ j_ : Int, (wrap64 (x20_1 + x27_2)) = j_ := ⟨_, rfl⟩
             replace H : (if 0 ≤ (ji14) then (if (ji14) < (x5_2.length : Int) then (wide_times.l1 k2 l1 (x5_2.set ((ji14) : Int).toNat ((IntKind.u64.wrap ((IntKind.u64.wrap ((IntKind.u64.wrap ((IntKind.u64.wrap ((rd l0 x20_1))) * (IntKind.u64.wrap (rd l1 x27_2)))) + (IntKind.u64.wrap (rd x5_2 (ji14))))) + x8_2)) % 4294967296)) x20_1 (rd l0 x20_1) ((IntKind.u64.wrap ((IntKind.u64.wrap ((IntKind.u64.wrap ((IntKind.u64.wrap ((rd l0 x20_1))) * (IntKind.u64.wrap (rd l1 x27_2)))) + (IntKind.u64.wrap (rd x5_2 (ji14))))) + x8_2)) / 4294967296) l0 (l0.length : Int) x20_1 l1 (l1.length : Int) (wrap64 (x27_2 + 1))) else (none)) else (none)) = some r := by first | (rw [hji14] at H; exact H) | (simp only [hji14] at H ⊢; exact H)
             have hji14w : (IntKind.i64.wrap (x20_1 + x27_2)) = ji14 := (i64_w _).trans hji14
             by_cases c15 : 0 ≤ (ji14)
             ·rw [if_pos c15] at H
              have c15b0 : decide (0 ≤ (ji14)) = true := decide_eq_true c15
              clear c15
              by_cases c16 : (ji14) < (x5_2.length : Int)
              ·rw [if_pos c16] at H
               have c16b0 : decide ((ji14) < (x5_2.length : Int)) = true := decide_eq_true c16
               clear c16
               obtain ⟨y248, hy248⟩ : ∃ y_ : List Int, y_ = (x5_2.set ((ji14) : Int).toNat ((IntKind.u64.wrap ((IntKind.u64.wrap ((IntKind.u64.wrap ((IntKind.u64.wrap ((rd l0 x20_1))) * (IntKind.u64.wrap (rd l1 x27_2)))) + (IntKind.u64.wrap (rd x5_2 (ji14))))) + x8_2)) % 4294967296)) := ⟨_, rfl⟩
               replace H : (wide_times.l1 k2 l1 y248 x20_1 (rd l0 x20_1) ((IntKind.u64.wrap ((IntKind.u64.wrap ((IntKind.u64.wrap ((IntKind.u64.wrap ((rd l0 x20_1))) * (IntKind.u64.wrap (rd l1 x27_2)))) + (IntKind.u64.wrap (rd x5_2 (ji14))))) + x8_2)) / 4294967296) l0 (l0.length : Int) x20_1 l1 (l1.length : Int) (wrap64 (x27_2 + 1))) = some r := by first | (rw [hy248]; with_reducible exact H) | (have H2_ := (Option.bind_some _ _).symm.trans H; rw [hy248]; with_reducible exact H2_) | (have H2_ := (Option.bind_some _ _).symm.trans H; with_reducible exact H2_) | with_reducible exact H | (rw [hy248]; exact H) | exact H
               have Ny248 := am_ hy248
               clear hy248
               have H' := am_ H
               clear H
               have p246 : 0 ≤ (x27_2 : Int) := of_decide_eq_true zq3
               have q246 : x27_2 < (l1.length : Int) := of_decide_eq_true zq3
               obtain ⟨ad246, e246, hx246_0⟩ := Kd.at_int HR1.out x27_2 p246 q246
               cases e246
               replace hx246_0 := (HB.out.cell (World.block_lt_of_cell? w _ hx246_0)).trans hx246_0
               replace p246 := eq_true p246
               replace q246 := eq_true q246
               obtain ⟨Ao18, co18, eo18⟩ := Kd.R_slice HO_5.out
               subst eo18
               have p247 : 0 ≤ ((ji14) : Int) := of_decide_eq_true zq3
               have q247 : (ji14) < (x5_2.length : Int) := of_decide_eq_true zq3
               obtain ⟨ad247, e247, hx247_0⟩ := Kd.at_int (Kd.R_reads' HO_5.out).2.2 (ji14) p247 q247
               cases e247
               replace p247 := eq_true p247
               replace q247 := eq_true q247
               have p17 : 0 ≤ ((ji14) : Int) := of_decide_eq_true zq3
               have q17 : ((ji14) : Int) < ((x5_2.length : Int) : Int) := of_decide_eq_true zq3
               obtain ⟨go17, co17, eo17, gb17, gl17, cl17, HG17⟩ := Kd.R_form HO_5.out (by omega)
               (first | cases eo17 | (injection eo17 with ea_ en_ ec_; (first | subst ea_ | (injection ea_ with ea_; subst ea_)); subst ec_; clear en_))
               have GB17 := am_ gb17
               have GG17 := am_ HG17
               clear gb17 gl17 HG17
               (first | simp only [add_plain] at hx247_0 | skip)
               obtain ⟨hx17_0, hf17_0⟩ := Kd.R_celln 0 HO_5.out ((ji14) : Int) p17 q17
               replace p17 := eq_true p17
               replace q17 := eq_true q17
               have HP19 := Kd.R_putg HO_5.out ((ji14) : Int) ((IntKind.u64.wrap ((IntKind.u64.wrap ((IntKind.u64.wrap ((IntKind.u64.wrap ((rd l0 x20_1))) * (IntKind.u64.wrap (rd l1 x27_2)))) + (IntKind.u64.wrap (rd x5_2 (ji14))))) + x8_2)) % 4294967296)
               go_wp2_with (first | ((with_reducible refine gate_store (t := 81) (p := 53) rfl ?_); refine store_event (t := 81) (p := 53) (v := ?vo_w20) (w1 := (wr.setCell ⟨go17, ((ji14) : Int).toNat, none⟩ (.int .u32 ((IntKind.u64.wrap ((IntKind.u64.wrap ((IntKind.u64.wrap ((IntKind.u64.wrap ((rd l0 x20_1))) * (IntKind.u64.wrap (rd l1 x27_2)))) + (IntKind.u64.wrap (rd x5_2 (ji14))))) + x8_2)) % 4294967296)))) ?hg ?ho ?hn ?hr ?_; (case ho => rfl); (case hg => rfl); (case hn => rfl); (case hr => exact zq1); intro w20 hw; have hg : wr.grownBy w20 (some go17) := (by rw [hw]; exact HP19.2); have hp_ : Kd.R (Kd.int .u32) 81 w20 w.heap.size (fun _ => True) (.slice (some ⟨go17, 0, none⟩) x5_2.length co18) y248 := (by rw [hw, Ny248.out]; exact HP19.1); clear HP19; replace HO_5 := am_ (hp_); replace HB := am_ ((by rw [hw]; exact below_set (HB.out) GB17.out : Below w.heap.size w w20)); clear hg hw hp_))
               go_roundg k2
               case measure => have := HK1.out; have := HK2.out; omega
               case rel => exact ⟨(y248), ((IntKind.u64.wrap ((IntKind.u64.wrap ((IntKind.u64.wrap ((IntKind.u64.wrap ((rd l0 x20_1))) * (IntKind.u64.wrap (rd l1 x27_2)))) + (IntKind.u64.wrap (rd x5_2 (ji14))))) + x8_2)) / 4294967296), (wrap64 (x27_2 + 1)), (by first | rfl | (simp; done) | (simp only [← hji14] <;> (first | rfl | simp)) | (simp [*]; done)), zq0, H', ⟨by have := HK1.out; have := HK2.out; omega⟩, ⟨by (with_reducible repeat (first | apply Kd.R_alloc | apply Kd.R_drewN | apply Kd.R_drew)); exact HO_5.out⟩, ⟨by repeat (first | (with_reducible first | exact HB.out | apply below_alloc | apply pw_below_drewN | apply below_drew1) | exact HB.out)⟩⟩
              ·rw [if_neg c16] at H
               exact absurd H (by simp)
             ·rw [if_neg c15] at H
              exact absurd H (by simp)
            ·rw [if_neg c13] at H
             exact absurd H (by simp)
           ·rw [if_neg c12] at H
            exact absurd H (by simp)
          ·rw [if_neg c11] at H
           have c11b0 : decide (x27_2 < (l1.length : Int)) = false := decide_eq_false c11
           clear c11
           obtain ⟨ji21, hji21⟩ : ∃ j_ : Int, (wrap64 (x20_1 + (l1.length : Int))) = j_ := ⟨_, rfl⟩
           replace H : (if 0 ≤ (ji21) then (if (ji21) < (x5_2.length : Int) then (wide_times.l0 k2 l1 (x5_2.set ((ji21) : Int).toNat ((x8_2) % 4294967296)) l0 (l0.length : Int) (wrap64 (x20_1 + 1))) else (none)) else (none)) = some r := by first | (rw [hji21] at H; exact H) | (simp only [hji21] at H ⊢; exact H)
           have hji21w : (IntKind.i64.wrap (x20_1 + (l1.length : Int))) = ji21 := (i64_w _).trans hji21
           by_cases c22 : 0 ≤ (ji21)
           ·rw [if_pos c22] at H
            have c22b0 : decide (0 ≤ (ji21)) = true := decide_eq_true c22
            clear c22
            by_cases c23 : (ji21) < (x5_2.length : Int)
            ·rw [if_pos c23] at H
             have c23b0 : decide ((ji21) < (x5_2.length : Int)) = true := decide_eq_true c23
             clear c23
             obtain ⟨y249, hy249⟩ : ∃ y_ : List Int, y_ = (x5_2.set ((ji21) : Int).toNat ((x8_2) % 4294967296)) := ⟨_, rfl⟩
             replace H : (wide_times.l0 k2 l1 y249 l0 (l0.length : Int) (wrap64 (x20_1 + 1))) = some r := by first | (rw [hy249]; with_reducible exact H) | (have H2_ := (Option.bind_some _ _).symm.trans H; rw [hy249]; with_reducible exact H2_) | (have H2_ := (Option.bind_some _ _).symm.trans H; with_reducible exact H2_) | with_reducible exact H | (rw [hy249]; exact H) | exact H
             have Ny249 := am_ hy249
             clear hy249
             have H' := am_ H
             clear H
             have p24 : 0 ≤ ((ji21) : Int) := of_decide_eq_true zq3
             have q24 : ((ji21) : Int) < ((x5_2.length : Int) : Int) := of_decide_eq_true zq3
             obtain ⟨go24, co24, eo24, gb24, gl24, cl24, HG24⟩ := Kd.R_form HO_5.out (by omega)
             (first | cases eo24 | (injection eo24 with ea_ en_ ec_; (first | subst ea_ | (injection ea_ with ea_; subst ea_)); subst ec_; clear en_))
             have GB24 := am_ gb24
             have GG24 := am_ HG24
             clear gb24 gl24 HG24
             obtain ⟨hx24_0, hf24_0⟩ := Kd.R_celln 0 HO_5.out ((ji21) : Int) p24 q24
             replace p24 := eq_true p24
             replace q24 := eq_true q24
             have HP25 := Kd.R_putg HO_5.out ((ji21) : Int) ((x8_2) % 4294967296)
             go_wp2_with (first | ((with_reducible refine gate_store (t := 81) (p := 64) rfl ?_); refine store_event (t := 81) (p := 64) (v := ?vo_w26) (w1 := (wr.setCell ⟨go24, ((ji21) : Int).toNat, none⟩ (.int .u32 ((x8_2) % 4294967296)))) ?hg ?ho ?hn ?hr ?_; (case ho => rfl); (case hg => rfl); (case hn => rfl); (case hr => exact zq1); intro w26 hw; have hg : wr.grownBy w26 (some go24) := (by rw [hw]; exact HP25.2); have hp_ : Kd.R (Kd.int .u32) 81 w26 w.heap.size (fun _ => True) (.slice (some ⟨go24, 0, none⟩) x5_2.length co24) y249 := (by rw [hw, Ny249.out]; exact HP25.1); clear HP25; replace HO_5 := am_ (hp_); replace HB := am_ ((by rw [hw]; exact below_set (HB.out) GB24.out : Below w.heap.size w w26)); clear hg hw hp_))
             go_roundg k2
             case measure => have := HK1.out; have := HK2.out; omega
             case rel => exact ⟨(y249), (wrap64 (x20_1 + 1)), zq0, H', ⟨by have := HK1.out; have := HK2.out; omega⟩, ⟨by (with_reducible repeat (first | apply Kd.R_alloc | apply Kd.R_drewN | apply Kd.R_drew)); exact HO_5.out⟩, ⟨by repeat (first | (with_reducible first | exact HB.out | apply below_alloc | apply pw_below_drewN | apply below_drew1) | exact HB.out)⟩⟩
            ·rw [if_neg c23] at H
             exact absurd H (by simp)
           ·rw [if_neg c22] at H
            exact absurd H (by simp)
       ·rw [if_neg c10] at H
        exact absurd H (by simp)
      ·rw [if_neg c9] at H
       exact absurd H (by simp)
     ·rw [if_neg c8] at H
      have c8b0 : decide (x20_1 < (l0.length : Int)) = false := decide_eq_false c8
      clear c8
      obtain rfl := Option.some.inj H
      go_wp2
      go_ret
      exact ⟨_, by first | rfl | (simp [errW_none, errW_some] <;> rfl) | (simp only [← hji3]; first | rfl | (simp [errW_none, errW_some] <;> rfl)) | (simp [*, errW_none, errW_some] <;> rfl), by (with_reducible repeat (first | apply Kd.R_alloc | apply Kd.R_drewN | apply Kd.R_drew)); exact HO_5.out, by repeat (first | (with_reducible first | exact HB.out | apply below_alloc | apply pw_below_drewN | apply below_drew1) | exact HB.out)⟩
  ·rw [if_neg c5] at H
   exact absurd H (by simp)
 ·rw [if_neg c4] at H
  exact absurd H (by simp)

/-! ### wide_signed: function 53 -/
def wide_signed.f (k : Nat) (a0 : Bool) (l1 : List Int) : Option (Bool × List Int × Int) := (wide_normal.f k l1).bind fun t251 => (if (t251.length : Int) > 512 then (some (false, ([] : List Int), 4)) else (if a0 = true then (some (decide (0 < t251.length), t251, 0)) else (some (false, t251, 0))))
theorem wide_signed.mono : ∀ a0 a1 k, LeO (wide_signed.f k a0 a1) (wide_signed.f (k + 1) a0 a1) := by
 intro a0 a1 k
 unfold wide_signed.f
 repeat' first
   | (with_reducible exact wide_normal.mono _ _)
   | (with_reducible exact LeO.refl _)
   | (with_reducible exact LeO.none _)
   | (with_reducible refine LeO.ite ?_ ?_)
   | (with_reducible refine LeO.bind ?_ (fun _ => ?_))
   | exact wide_normal.mono _ _
   | exact LeO.none _
   | refine LeO.ite ?_ ?_
   | refine LeO.bind ?_ (fun _ => ?_)
set_option maxHeartbeats 8000000 in
set_option maxRecDepth 100000 in
theorem wide_signed.calls (k : Nat) (a0 : Bool) (P1_ : Nat → Prop) (A1 : Option Addr) (c1 : Nat) (l1 : List Int) (r1 : Bool) (r2 : List Int) (r3 : Int) (w : World) (hs1 : Kd.V (Kd.int .u32) 81 w w.heap.size (fun k_ => P1_ k_) (.slice A1 l1.length c1) l1) (h : wide_signed.f k a0 l1 = some (r1, r2, r3)) :
  Calls Tryz.prog 53 #[.bool a0, .slice A1 l1.length c1] w fun e w' => ∃ v1_ : Value, e = .returned (.tuple #[.agg #[.bool r1, v1_], .int .i64 r3]) ∧ Kd.V (Kd.int .u32) 81 w' w.heap.size (fun k_ => (P1_ k_ ∨ w.heap.size ≤ k_)) v1_ r2 ∧ Below w.heap.size w w' := by
 have hu33 := Tryz.underlying33
 have HO1 := am_ (show Kd.V (Kd.int .u32) 81 w w.heap.size (fun k_ => (P1_ k_ ∨ w.heap.size ≤ k_)) (.slice A1 l1.length c1) l1 from Kd.V_mono hs1 (fun k_ hk => .inl hk))
 have HB := am_ (Below.refl w.heap.size w)
 have H : ((wide_normal.f k l1).bind fun t251 => (if (t251.length : Int) > 512 then (some (false, ([] : List Int), 4)) else (if a0 = true then (some (decide (0 < t251.length), t251, 0)) else (some (false, t251, 0))))) = some (r1, r2, r3) := h
 clear h
 replace H := Option.bind_eq_some_iff.mp H
 obtain ⟨t251, A30, H⟩ := H
 replace H : (if (t251.length : Int) > 512 then (some (false, ([] : List Int), 4)) else (if a0 = true then (some (decide (0 < t251.length), t251, 0)) else (some (false, t251, 0)))) = some (r1, r2, r3) := H
 have A3 := am_ A30
 clear A30
 by_cases c4 : (t251.length : Int) > 512
 ·rw [if_pos c4] at H
  have c4b0 : decide (512 < (t251.length : Int)) = true := decide_eq_true c4
  have c4b1 : decide (512 < t251.length) = true := decide_eq_true (by omega)
  clear c4
  simp only [Option.some.injEq, Prod.mk.injEq] at H
  obtain ⟨rfl, rfl, rfl⟩ := H
  go_enter Tryz.func53, Tryz.ntmps53
  go_wp2_with (first | ((with_reducible refine gate_dst (N := 4) rfl ?_); (try (refine gate_guard (by rfl) ?_; dsimp only)); refine box_event ?hg (N := 4) ?hd (cs := #[.bool false, .slice none 0 0]) (t := 33) ?hr ?_; (case hd => rfl); (case hg => rfl); (case hr => exact zq1); intro gb250 hg w5 hbox hb; have n0_ := am_ (Kd.V_below (Kd.V_elderB (zq5 HO1.out) gb250 (Nat.le_of_eq hg.symm)) hb); have n1_ := am_ (below_step zq2 hb); have n2_ := am_ (hbox); have n3_ := am_ ((by rw [hg]; exact (below_size zq2) : w.heap.size ≤ gb250)); clear HO1 HB; have HO1 := n0_; have HB := n1_; have BK250 := n2_; have GE250 := n3_; clear n0_ n1_ n2_ n3_; clear hb hbox hg) | ((with_reducible refine gate_callee (f := 50) rfl ?_); refine goesL_ (some 7) rfl rfl Tryz.func50 (by kernel_rfl) rfl #[.slice A1 l1.length c1] rfl zq4 ?_; (with_reducible refine (wide_normal.calls k (fun k_ => ((P1_ k_ ∨ w.heap.size ≤ k_) ∧ k_ ≠ gb250)) _ _ l1 t251 _ ?side1 A3.out).mono ?_); (case side1 => exact HO1.out); rintro e w6 ⟨v252, rfl, ho0, hb⟩; refine ⟨_, rfl, ?_⟩; replace HO1 := am_ (Kd.V_below (zq5 HO1.out) hb); have HO253 := am_ (Kd.V_lower (Kd.V_mono (ok' := fun k_ => (P1_ k_ ∨ w.heap.size ≤ k_) ∧ k_ ≠ gb250) ho0 (fun k_ hk_ => ⟨Or.elim hk_ (fun hs_ => hs_.1) (fun hn_ => (.inr (Nat.le_trans (below_size zq41) hn_))), Or.elim hk_ (fun hs_ => hs_.2) (fun hn_ => (Kd.freshB (g := gb250) (o := .cells #[.bool false, .slice none 0 0] 33 (0, 0)) (zq9 BK250.out) k_ hn_))⟩)) (below_size zq41)); replace BK250 := am_ (blk_below (g := gb250) (o := .cells #[.bool false, .slice none 0 0] 33 (0, 0)) (zq9 BK250.out) hb); replace HB := am_ (below_step zq41 hb); (try clear hb); (try clear ho0); obtain ⟨Ao7, co7, eo7⟩ := Kd.V_slice HO253.out; subst eo7; have hcz8_0 : w6.cell? ⟨gb250, 0, none⟩ = some (.bool false) := (blk_cell BK250.out 0).trans rfl; have hcz8_1 : w6.cell? ⟨gb250, 1, none⟩ = some (.slice none 0 0) := (blk_cell BK250.out 1).trans rfl; have hfz8_0 := blk_frozen BK250.out 0; have hfz8_1 := blk_frozen BK250.out 1))
  refine bodyPost_ret (results_ct rfl _ _ gb250 33 #[.bool false, .slice none 0 0] (0, 0) _ rfl (zq6 BK250.out) Tryz.underlying33 rfl (by kernel_rfl)) rfl ?_
  exact ⟨_, by first | rfl | (simp [errW_none, errW_some] <;> rfl) | (simp [*, errW_none, errW_some] <;> rfl), Kd.V_mono (ok := fun _ => False) (Kd.V_nil _ _ _ _ _) (fun _ hk => hk.elim), by repeat (first | (with_reducible first | exact HB.out | apply below_alloc | apply pw_below_drewN | apply below_drew1 | refine below_set ?_ GE250.out) | exact HB.out)⟩
 ·rw [if_neg c4] at H
  have c4b0 : decide (512 < (t251.length : Int)) = false := decide_eq_false c4
  have c4b1 : decide (512 < t251.length) = false := decide_eq_false (by omega)
  clear c4
  by_cases c9 : a0 = true
  ·subst c9
   have H1 : (some (decide (0 < t251.length), t251, 0)) = some (r1, r2, r3) := by rw [if_pos rfl] at H; exact H
   clear H
   have H := H1
   clear H1
   simp only [Option.some.injEq, Prod.mk.injEq] at H
   obtain ⟨rfl, rfl, rfl⟩ := H
   go_enter Tryz.func53, Tryz.ntmps53
   go_wp2_with (first | ((with_reducible refine gate_dst (N := 4) rfl ?_); (try (refine gate_guard (by rfl) ?_; dsimp only)); refine box_event ?hg (N := 4) ?hd (cs := #[.bool false, .slice none 0 0]) (t := 33) ?hr ?_; (case hd => rfl); (case hg => rfl); (case hr => exact zq1); intro gb250 hg w10 hbox hb; have n0_ := am_ (Kd.V_below (Kd.V_elderB (zq5 HO1.out) gb250 (Nat.le_of_eq hg.symm)) hb); have n1_ := am_ (below_step zq2 hb); have n2_ := am_ (hbox); have n3_ := am_ ((by rw [hg]; exact (below_size zq2) : w.heap.size ≤ gb250)); clear HO1 HB; have HO1 := n0_; have HB := n1_; have BK250 := n2_; have GE250 := n3_; clear n0_ n1_ n2_ n3_; clear hb hbox hg) | ((with_reducible refine gate_callee (f := 50) rfl ?_); refine goesL_ (some 7) rfl rfl Tryz.func50 (by kernel_rfl) rfl #[.slice A1 l1.length c1] rfl zq4 ?_; (with_reducible refine (wide_normal.calls k (fun k_ => ((P1_ k_ ∨ w.heap.size ≤ k_) ∧ k_ ≠ gb250)) _ _ l1 t251 _ ?side1 A3.out).mono ?_); (case side1 => exact HO1.out); rintro e w11 ⟨v252, rfl, ho0, hb⟩; refine ⟨_, rfl, ?_⟩; replace HO1 := am_ (Kd.V_below (zq5 HO1.out) hb); have HO253 := am_ (Kd.V_lower (Kd.V_mono (ok' := fun k_ => (P1_ k_ ∨ w.heap.size ≤ k_) ∧ k_ ≠ gb250) ho0 (fun k_ hk_ => ⟨Or.elim hk_ (fun hs_ => hs_.1) (fun hn_ => (.inr (Nat.le_trans (below_size zq41) hn_))), Or.elim hk_ (fun hs_ => hs_.2) (fun hn_ => (Kd.freshB (g := gb250) (o := .cells #[.bool false, .slice none 0 0] 33 (0, 0)) (zq9 BK250.out) k_ hn_))⟩)) (below_size zq41)); replace BK250 := am_ (blk_below (g := gb250) (o := .cells #[.bool false, .slice none 0 0] 33 (0, 0)) (zq9 BK250.out) hb); replace HB := am_ (below_step zq41 hb); (try clear hb); (try clear ho0); obtain ⟨Ao12, co12, eo12⟩ := Kd.V_slice HO253.out; subst eo12; have hcz13_0 : w11.cell? ⟨gb250, 0, none⟩ = some (.bool false) := (blk_cell BK250.out 0).trans rfl; have hcz13_1 : w11.cell? ⟨gb250, 1, none⟩ = some (.slice none 0 0) := (blk_cell BK250.out 1).trans rfl; have hfz13_0 := blk_frozen BK250.out 0; have hfz13_1 := blk_frozen BK250.out 1))
   refine bodyPost_ret (results_ct rfl _ _ gb250 33 #[.bool (decide (0 < t251.length)), .slice Ao12 t251.length co12] (0, 0) _ rfl (by (with_reducible repeat (first | refine blk_drewN ?_ _ | refine blk_drew ?_ | refine blk_alloc ?_ _)); refine blk_put (cs := #[.bool (decide (0 < t251.length)), .slice none 0 0]) ?_ 1 _ rfl; (with_reducible repeat (first | refine blk_drewN ?_ _ | refine blk_drew ?_ | refine blk_alloc ?_ _)); refine blk_put (cs := #[.bool false, .slice none 0 0]) ?_ 0 _ rfl; (with_reducible repeat (first | refine blk_drewN ?_ _ | refine blk_drew ?_ | refine blk_alloc ?_ _)); exact BK250.out) Tryz.underlying33 rfl (by kernel_rfl)) rfl ?_
   exact ⟨_, by first | rfl | (simp [errW_none, errW_some] <;> rfl) | (simp [*, errW_none, errW_some] <;> rfl), by (with_reducible repeat (first | apply Kd.V_alloc | apply Kd.V_drewN | apply Kd.V_drew)); exact Kd.V_mono (Kd.V_far (p := ⟨gb250, 1, none⟩) (Kd.V_far (p := ⟨gb250, 0, none⟩) (Kd.V_mono HO253.out (fun k_ hk => (⟨hk, hk.2⟩ : _ ∧ k_ ≠ gb250))) (fun _ hk => hk.2) (.bool (decide (0 < t251.length)))) (fun _ hk => hk.2) (.slice Ao12 t251.length co12)) (fun _ hk => hk.1.1), by repeat (first | (with_reducible first | exact HB.out | apply below_alloc | apply pw_below_drewN | apply below_drew1 | refine below_set ?_ GE250.out) | exact HB.out)⟩
  ·replace c9 := Bool.eq_false_iff.mpr c9
   subst c9
   have H1 : (some (false, t251, 0)) = some (r1, r2, r3) := by rw [if_neg (show ¬ (false = true) by decide)] at H; exact H
   clear H
   have H := H1
   clear H1
   simp only [Option.some.injEq, Prod.mk.injEq] at H
   obtain ⟨rfl, rfl, rfl⟩ := H
   go_enter Tryz.func53, Tryz.ntmps53
   go_wp2_with (first | ((with_reducible refine gate_dst (N := 4) rfl ?_); (try (refine gate_guard (by rfl) ?_; dsimp only)); refine box_event ?hg (N := 4) ?hd (cs := #[.bool false, .slice none 0 0]) (t := 33) ?hr ?_; (case hd => rfl); (case hg => rfl); (case hr => exact zq1); intro gb250 hg w14 hbox hb; have n0_ := am_ (Kd.V_below (Kd.V_elderB (zq5 HO1.out) gb250 (Nat.le_of_eq hg.symm)) hb); have n1_ := am_ (below_step zq2 hb); have n2_ := am_ (hbox); have n3_ := am_ ((by rw [hg]; exact (below_size zq2) : w.heap.size ≤ gb250)); clear HO1 HB; have HO1 := n0_; have HB := n1_; have BK250 := n2_; have GE250 := n3_; clear n0_ n1_ n2_ n3_; clear hb hbox hg) | ((with_reducible refine gate_callee (f := 50) rfl ?_); refine goesL_ (some 7) rfl rfl Tryz.func50 (by kernel_rfl) rfl #[.slice A1 l1.length c1] rfl zq4 ?_; (with_reducible refine (wide_normal.calls k (fun k_ => ((P1_ k_ ∨ w.heap.size ≤ k_) ∧ k_ ≠ gb250)) _ _ l1 t251 _ ?side1 A3.out).mono ?_); (case side1 => exact HO1.out); rintro e w15 ⟨v252, rfl, ho0, hb⟩; refine ⟨_, rfl, ?_⟩; have HO253 := am_ (Kd.V_lower (Kd.V_mono (ok' := fun k_ => (P1_ k_ ∨ w.heap.size ≤ k_) ∧ k_ ≠ gb250) ho0 (fun k_ hk_ => ⟨Or.elim hk_ (fun hs_ => hs_.1) (fun hn_ => (.inr (Nat.le_trans (below_size zq41) hn_))), Or.elim hk_ (fun hs_ => hs_.2) (fun hn_ => (Kd.freshB (g := gb250) (o := .cells #[.bool false, .slice none 0 0] 33 (0, 0)) (zq9 BK250.out) k_ hn_))⟩)) (below_size zq41)); replace BK250 := am_ (blk_below (g := gb250) (o := .cells #[.bool false, .slice none 0 0] 33 (0, 0)) (zq9 BK250.out) hb); replace HB := am_ (below_step zq41 hb); (try clear hb); (try clear ho0); obtain ⟨Ao16, co16, eo16⟩ := Kd.V_slice HO253.out; subst eo16; have hcz17_0 : w15.cell? ⟨gb250, 0, none⟩ = some (.bool false) := (blk_cell BK250.out 0).trans rfl; have hcz17_1 : w15.cell? ⟨gb250, 1, none⟩ = some (.slice none 0 0) := (blk_cell BK250.out 1).trans rfl; have hfz17_0 := blk_frozen BK250.out 0; have hfz17_1 := blk_frozen BK250.out 1))
   refine bodyPost_ret (results_ct rfl _ _ gb250 33 #[.bool false, .slice Ao16 t251.length co16] (0, 0) _ rfl (zq6 BK250.out) Tryz.underlying33 rfl (by kernel_rfl)) rfl ?_
   exact ⟨_, by first | rfl | (simp [errW_none, errW_some] <;> rfl) | (simp [*, errW_none, errW_some] <;> rfl), by (with_reducible repeat (first | apply Kd.V_alloc | apply Kd.V_drewN | apply Kd.V_drew)); exact Kd.V_mono (Kd.V_far (p := ⟨gb250, 1, none⟩) (Kd.V_far (p := ⟨gb250, 0, none⟩) (Kd.V_mono HO253.out (fun k_ hk => (⟨hk, hk.2⟩ : _ ∧ k_ ≠ gb250))) (fun _ hk => hk.2) (.bool false)) (fun _ hk => hk.2) (.slice Ao16 t251.length co16)) (fun _ hk => hk.1.1), by repeat (first | (with_reducible first | exact HB.out | apply below_alloc | apply pw_below_drewN | apply below_drew1 | refine below_set ?_ GE250.out) | exact HB.out)⟩

/-! ### wide_Parse: function 16 -/
mutual
def wide_Parse.j0 : Nat → ByteArray → Bool → Bool → Option (Bool × List Int × Int)
 | 0, _, _, _ => none
 | k + 1, x4, x5, x38 => if x38 = true then (some (false, ([] : List Int), 2)) else (wide_Parse.l0 k x4 x5 ([] : List Int))
def wide_Parse.l0 : Nat → ByteArray → Bool → List Int → Option (Bool × List Int × Int)
 | 0, _, _, _ => none
 | k + 1, x4, x5, x6 => if (x4.size : Int) > 0 then (if 0 ≤ (wrap64 ((Int.tmod (wrap64 ((x4.size : Int) - 1)) 9) + 1)) then (if (wrap64 ((Int.tmod (wrap64 ((x4.size : Int) - 1)) 9) + 1)) ≤ (x4.size : Int) then ((strconv_Atoi.f (x4.extract 0 ((wrap64 ((Int.tmod (wrap64 ((x4.size : Int) - 1)) 9) + 1)) : Int).toNat)).bind fun bt263 => ((wide_times.f k x6 (([1000000000] : List Int))).bind fun t268 => ((wide_sum.f t268 (([(bt263.1) % 4294967296] : List Int))).bind fun t274 => ((wide_normal.f k t274).bind fun t277 => (wide_Parse.l0 k (x4.extract ((wrap64 ((Int.tmod (wrap64 ((x4.size : Int) - 1)) 9) + 1)) : Int).toNat x4.size) x5 t277))))) else (none)) else (none)) else ((wide_signed.f k x5 x6).bind fun bt258 => (some (bt258.1, bt258.2.1, bt258.2.2)))
end
def wide_Parse.f (k : Nat) (a0 : ByteArray) : Option (Bool × List Int × Int) := if (a0.size : Int) > 5000 then (some (false, ([] : List Int), 4)) else ((strings_CutPrefix.f a0 (⟨#[45]⟩ : ByteArray)).bind fun bt255 => (if bt255.1.toList = ([] : List UInt8) then (wide_Parse.j0 k bt255.1 bt255.2 true) else ((strings_Trim.f bt255.1 (⟨#[48, 49, 50, 51, 52, 53, 54, 55, 56, 57]⟩ : ByteArray)).bind fun t257 => (if t257.toList = ([] : List UInt8) then (if 0 < (bt255.1.size : Int) then (if (bt bt255.1 0) = 48 then (if bt255.2 = true then (wide_Parse.j0 k bt255.1 bt255.2 true) else (wide_Parse.j0 k bt255.1 bt255.2 (decide ((bt255.1.size : Int) > 1)))) else (wide_Parse.j0 k bt255.1 bt255.2 false)) else (none)) else (wide_Parse.j0 k bt255.1 bt255.2 true)))))
theorem wide_Parse.mono_l : ∀ k, (∀ y0 y1 y2, LeO (wide_Parse.j0 k y0 y1 y2) (wide_Parse.j0 (k + 1) y0 y1 y2)) ∧ (∀ y0 y1 y2, LeO (wide_Parse.l0 k y0 y1 y2) (wide_Parse.l0 (k + 1) y0 y1 y2))
 | 0 => ⟨fun _ _ _ r h => by simp [wide_Parse.j0] at h, fun _ _ _ r h => by simp [wide_Parse.l0] at h⟩
 | k + 1 => by
  obtain ⟨ih0, ih1⟩ := wide_Parse.mono_l k
  refine ⟨?_, ?_⟩
  ·intro y0 y1 y2
   unfold wide_Parse.j0
   repeat' first
   | (with_reducible exact ih0 _ _ _)
   | (with_reducible exact ih1 _ _ _)
   | (with_reducible exact wide_normal.mono _ _)
   | (with_reducible exact wide_signed.mono _ _ _)
   | (with_reducible exact wide_times.mono _ _ _)
   | (with_reducible exact LeO.refl _)
   | (with_reducible exact LeO.none _)
   | (with_reducible refine LeO.ite ?_ ?_)
   | (with_reducible refine LeO.bind ?_ (fun _ => ?_))
   | exact ih0 _ _ _
   | exact ih1 _ _ _
   | exact wide_normal.mono _ _
   | exact wide_signed.mono _ _ _
   | exact wide_times.mono _ _ _
   | exact LeO.none _
   | refine LeO.ite ?_ ?_
   | refine LeO.bind ?_ (fun _ => ?_)
  ·intro y0 y1 y2
   unfold wide_Parse.l0
   repeat' first
   | (with_reducible exact ih0 _ _ _)
   | (with_reducible exact ih1 _ _ _)
   | (with_reducible exact wide_normal.mono _ _)
   | (with_reducible exact wide_signed.mono _ _ _)
   | (with_reducible exact wide_times.mono _ _ _)
   | (with_reducible exact LeO.refl _)
   | (with_reducible exact LeO.none _)
   | (with_reducible refine LeO.ite ?_ ?_)
   | (with_reducible refine LeO.bind ?_ (fun _ => ?_))
   | exact ih0 _ _ _
   | exact ih1 _ _ _
   | exact wide_normal.mono _ _
   | exact wide_signed.mono _ _ _
   | exact wide_times.mono _ _ _
   | exact LeO.none _
   | refine LeO.ite ?_ ?_
   | refine LeO.bind ?_ (fun _ => ?_)
theorem wide_Parse.mono : ∀ a0 k, LeO (wide_Parse.f k a0) (wide_Parse.f (k + 1) a0) := by
 intro a0 k
 obtain ⟨ih0, ih1⟩ := wide_Parse.mono_l k
 unfold wide_Parse.f
 repeat' first
   | (with_reducible exact ih0 _ _ _)
   | (with_reducible exact ih1 _ _ _)
   | (with_reducible exact wide_normal.mono _ _)
   | (with_reducible exact wide_signed.mono _ _ _)
   | (with_reducible exact wide_times.mono _ _ _)
   | (with_reducible exact LeO.refl _)
   | (with_reducible exact LeO.none _)
   | (with_reducible refine LeO.ite ?_ ?_)
   | (with_reducible refine LeO.bind ?_ (fun _ => ?_))
   | exact ih0 _ _ _
   | exact ih1 _ _ _
   | exact wide_normal.mono _ _
   | exact wide_signed.mono _ _ _
   | exact wide_times.mono _ _ _
   | exact LeO.none _
   | refine LeO.ite ?_ ?_
   | refine LeO.bind ?_ (fun _ => ?_)
set_option maxHeartbeats 8000000 in
set_option maxRecDepth 100000 in
theorem wide_Parse.calls (k : Nat) (a0 : ByteArray) (r1 : Bool) (r2 : List Int) (r3 : Int) (w : World) (h : wide_Parse.f k a0 = some (r1, r2, r3)) :
  Calls Tryz.prog 16 #[.string a0] w fun e w' => ∃ v1_ : Value, e = .returned (.tuple #[.agg #[.bool r1, v1_], .int .i64 r3]) ∧ Kd.V (Kd.int .u32) 81 w' w.heap.size (fun k_ => (w.heap.size ≤ k_)) v1_ r2 ∧ Below w.heap.size w w' := by
 have hu33 := Tryz.underlying33
 have HB := am_ (Below.refl w.heap.size w)
 have H : (if (a0.size : Int) > 5000 then (some (false, ([] : List Int), 4)) else ((strings_CutPrefix.f a0 (⟨#[45]⟩ : ByteArray)).bind fun bt255 => (if bt255.1.toList = ([] : List UInt8) then (wide_Parse.j0 k bt255.1 bt255.2 true) else ((strings_Trim.f bt255.1 (⟨#[48, 49, 50, 51, 52, 53, 54, 55, 56, 57]⟩ : ByteArray)).bind fun t257 => (if t257.toList = ([] : List UInt8) then (if 0 < (bt255.1.size : Int) then (if (bt bt255.1 0) = 48 then (if bt255.2 = true then (wide_Parse.j0 k bt255.1 bt255.2 true) else (wide_Parse.j0 k bt255.1 bt255.2 (decide ((bt255.1.size : Int) > 1)))) else (wide_Parse.j0 k bt255.1 bt255.2 false)) else (none)) else (wide_Parse.j0 k bt255.1 bt255.2 true)))))) = some (r1, r2, r3) := h
 clear h
 by_cases c2 : (a0.size : Int) > 5000
 ·rw [if_pos c2] at H
  have c2b0 : decide (5000 < (a0.size : Int)) = true := decide_eq_true c2
  have c2b1 : decide (5000 < a0.size) = true := decide_eq_true (by omega)
  clear c2
  simp only [Option.some.injEq, Prod.mk.injEq] at H
  obtain ⟨rfl, rfl, rfl⟩ := H
  go_enter Tryz.func16, Tryz.ntmps16
  go_wp2_with (first | ((with_reducible refine gate_dst (N := 2) rfl ?_); (try (refine gate_guard (by rfl) ?_; dsimp only)); refine box_event ?hg (N := 2) ?hd (cs := #[.bool false, .slice none 0 0]) (t := 33) ?hr ?_; (case hd => rfl); (case hg => rfl); (case hr => exact zq1); intro gb254 hg w3 hbox hb; have n0_ := am_ (below_step zq2 hb); have n1_ := am_ (hbox); have n2_ := am_ ((by rw [hg]; exact (below_size zq2) : w.heap.size ≤ gb254)); clear HB; have HB := n0_; have BK254 := n1_; have GE254 := n2_; clear n0_ n1_ n2_; clear hb hbox hg; have hcz4_0 : w3.cell? ⟨gb254, 0, none⟩ = some (.bool false) := (blk_cell BK254.out 0).trans rfl; have hcz4_1 : w3.cell? ⟨gb254, 1, none⟩ = some (.slice none 0 0) := (blk_cell BK254.out 1).trans rfl; have hfz4_0 := blk_frozen BK254.out 0; have hfz4_1 := blk_frozen BK254.out 1))
  refine bodyPost_ret (results_ct rfl _ _ gb254 33 #[.bool false, .slice none 0 0] (0, 0) _ rfl (zq6 BK254.out) Tryz.underlying33 rfl (by kernel_rfl)) rfl ?_
  exact ⟨_, by first | rfl | (simp [errW_none, errW_some] <;> rfl) | (simp [*, errW_none, errW_some] <;> rfl), Kd.R_V (base := 0) zq38, by repeat (first | (with_reducible first | exact HB.out | apply below_alloc | apply pw_below_drewN | apply below_drew1 | refine below_set ?_ GE254.out) | exact HB.out)⟩
 ·rw [if_neg c2] at H
  have c2b0 : decide (5000 < (a0.size : Int)) = false := decide_eq_false c2
  have c2b1 : decide (5000 < a0.size) = false := decide_eq_false (by omega)
  clear c2
  replace H := Option.bind_eq_some_iff.mp H
  obtain ⟨⟨t255, t256⟩, A50, H⟩ := H
  replace H : (if t255.toList = ([] : List UInt8) then (wide_Parse.j0 k t255 t256 true) else ((strings_Trim.f t255 (⟨#[48, 49, 50, 51, 52, 53, 54, 55, 56, 57]⟩ : ByteArray)).bind fun t257 => (if t257.toList = ([] : List UInt8) then (if 0 < (t255.size : Int) then (if (bt t255 0) = 48 then (if t256 = true then (wide_Parse.j0 k t255 t256 true) else (wide_Parse.j0 k t255 t256 (decide ((t255.size : Int) > 1)))) else (wide_Parse.j0 k t255 t256 false)) else (none)) else (wide_Parse.j0 k t255 t256 true)))) = some (r1, r2, r3) := H
  have A5 := am_ A50
  clear A50
  have HC6 := am_ H
  clear H
  go_enter Tryz.func16, Tryz.ntmps16
  go_upto_region 4 with (first | ((with_reducible refine gate_dst (N := 2) rfl ?_); (try (refine gate_guard (by rfl) ?_; dsimp only)); refine box_event ?hg (N := 2) ?hd (cs := #[.bool false, .slice none 0 0]) (t := 33) ?hr ?_; (case hd => rfl); (case hg => rfl); (case hr => exact zq1); intro gb254 hg w7 hbox hb; have n0_ := am_ (below_step zq2 hb); have n1_ := am_ (hbox); have n2_ := am_ ((by rw [hg]; exact (below_size zq2) : w.heap.size ≤ gb254)); clear HB; have HB := n0_; have BK254 := n1_; have GE254 := n2_; clear n0_ n1_ n2_; clear hb hbox hg) | ((with_reducible refine gate_callee (f := 47) rfl ?_); refine goesL_ (some 16) rfl rfl Tryz.func47 (by kernel_rfl) rfl #[.string a0, .string (⟨#[45]⟩ : ByteArray)] rfl zq4 ?_; (with_reducible refine (strings_CutPrefix.calls a0 (⟨#[45]⟩ : ByteArray) t255 t256 _ A5.out).mono ?_); rintro e w' ⟨rfl, ⟨nd, rfl⟩⟩; refine ⟨_, rfl, ?_⟩))
  (try simp only [Act.put, List.setIfInBounds_toArray, List.set_cons_zero, List.set_cons_succ])
  go_cut [38] (fun v38 wc => ∃ (kq : Nat) (x38_5 : Bool), v38 = .bool x38_5 ∧ Aside0 (wide_Parse.j0 kq t255 t256 x38_5 = some (r1, r2, r3)) ∧ Aside0 (kq ≤ k) ∧ Aside0 (wc.heap[gb254]? = some (.cells #[.bool false, (.slice none 0 0)] 33 (0, 0))) ∧ Aside0 (Below w.heap.size w wc))
  case first =>
   have H := HC6.out
   clear HC6
   by_cases c8 : t255.toList = ([] : List UInt8)
   ·rw [if_pos c8] at H
    have c8b0 : (t255.toList == ([] : List UInt8)) = true := beq_iff_eq.mpr c8
    have c8b1 : (t255.toList != ([] : List UInt8)) = false := bne_eq_false_iff_eq.mpr c8
    clear c8
    (first | rw [c8b0] | (simp only [i64_w, i32_w]; rw [c8b0]) | skip)
    have H' := am_ H
    clear H
    go_wp2
    go_meet
    case rel => exact ⟨_, (true), zq0, H', ⟨by first | omega | exact Nat.le_refl _⟩, ⟨by (with_reducible repeat (first | refine blk_drewN ?_ _ | refine blk_drew ?_ | refine blk_alloc ?_ _)); exact BK254.out⟩, ⟨by repeat (first | (with_reducible first | exact HB.out | apply below_alloc | apply pw_below_drewN | apply below_drew1 | refine below_set ?_ GE254.out) | exact HB.out)⟩⟩
   ·rw [if_neg c8] at H
    have c8b0 : (t255.toList == ([] : List UInt8)) = false := beq_eq_false_iff_ne.mpr c8
    have c8b1 : (t255.toList != ([] : List UInt8)) = true := bne_iff_ne.mpr c8
    (first | rw [c8b0] | (simp only [i64_w, i32_w]; rw [c8b0]) | skip)
    replace H := Option.bind_eq_some_iff.mp H
    obtain ⟨t257, A90, H⟩ := H
    replace H : (if t257.toList = ([] : List UInt8) then (if 0 < (t255.size : Int) then (if (bt t255 0) = 48 then (if t256 = true then (wide_Parse.j0 k t255 t256 true) else (wide_Parse.j0 k t255 t256 (decide ((t255.size : Int) > 1)))) else (wide_Parse.j0 k t255 t256 false)) else (none)) else (wide_Parse.j0 k t255 t256 true)) = some (r1, r2, r3) := H
    have A9 := am_ A90
    clear A90
    by_cases c10 : t257.toList = ([] : List UInt8)
    ·rw [if_pos c10] at H
     have c10b0 : (t257.toList == ([] : List UInt8)) = true := beq_iff_eq.mpr c10
     have c10b1 : (t257.toList != ([] : List UInt8)) = false := bne_eq_false_iff_eq.mpr c10
     clear c10
     by_cases c11 : 0 < (t255.size : Int)
     ·rw [if_pos c11] at H
      have c11b0 : decide (0 < (t255.size : Int)) = true := decide_eq_true c11
      have c11b1 : decide (0 < t255.size) = true := decide_eq_true (by omega)
      clear c11
      by_cases c13 : (bt t255 0) = 48
      ·rw [if_pos c13] at H
       have c13b0 : ((bt t255 0) == 48) = true := beq_iff_eq.mpr c13
       have c13b1 : ((bt t255 0) != 48) = false := bne_eq_false_iff_eq.mpr c13
       clear c13
       by_cases c14 : t256 = true
       ·subst c14
        have H1 : (wide_Parse.j0 k t255 true true) = some (r1, r2, r3) := by rw [if_pos rfl] at H; exact H
        clear H
        have H := H1
        clear H1
        have H' := am_ H
        clear H
        go_wp2_with (first | (go_at_call 48; (with_reducible refine (strings_Trim.calls t255 (⟨#[48, 49, 50, 51, 52, 53, 54, 55, 56, 57]⟩ : ByteArray) t257 _ A9.out).mono ?_); rintro e w15 ⟨rfl, hb⟩; replace BK254 := am_ (blk_below (g := gb254) (o := .cells #[.bool false, .slice none 0 0] 33 (0, 0)) (zq9 BK254.out) hb); replace HB := am_ (below_step zq42 hb); (try clear hb); have p12 : 0 ≤ (0 : Int) := (by omega); have q12 : 0 < t255.size := (by have : (0 : Int) < (t255.size : Int) := of_decide_eq_true zq3; omega); have hx12 : ∀ h : 0 < t255.size, ((t255[0]'h).toNat : Int) = bt t255 0 := bt_at t255 0; clear p12; have qi12 : (0 < (t255.size : Int)) = True := eq_true (of_decide_eq_true zq3); replace q12 := eq_true q12))
        go_meet
        case rel => exact ⟨_, (true), zq0, H', ⟨by first | omega | exact Nat.le_refl _⟩, ⟨by (with_reducible repeat (first | refine blk_drewN ?_ _ | refine blk_drew ?_ | refine blk_alloc ?_ _)); exact BK254.out⟩, ⟨by repeat (first | (with_reducible first | exact HB.out | apply below_alloc | apply pw_below_drewN | apply below_drew1 | refine below_set ?_ GE254.out) | exact HB.out)⟩⟩
       ·replace c14 := Bool.eq_false_iff.mpr c14
        subst c14
        have H1 : (wide_Parse.j0 k t255 false (decide ((t255.size : Int) > 1))) = some (r1, r2, r3) := by rw [if_neg (show ¬ (false = true) by decide)] at H; exact H
        clear H
        have H := H1
        clear H1
        have H' := am_ H
        clear H
        go_wp2_with (first | (go_at_call 48; (with_reducible refine (strings_Trim.calls t255 (⟨#[48, 49, 50, 51, 52, 53, 54, 55, 56, 57]⟩ : ByteArray) t257 _ A9.out).mono ?_); rintro e w16 ⟨rfl, hb⟩; replace BK254 := am_ (blk_below (g := gb254) (o := .cells #[.bool false, .slice none 0 0] 33 (0, 0)) (zq9 BK254.out) hb); replace HB := am_ (below_step zq42 hb); (try clear hb); have p12 : 0 ≤ (0 : Int) := (by omega); have q12 : 0 < t255.size := (by have : (0 : Int) < (t255.size : Int) := of_decide_eq_true zq3; omega); have hx12 : ∀ h : 0 < t255.size, ((t255[0]'h).toNat : Int) = bt t255 0 := bt_at t255 0; clear p12; have qi12 : (0 < (t255.size : Int)) = True := eq_true (of_decide_eq_true zq3); replace q12 := eq_true q12))
        go_meet
        case rel => exact ⟨_, (decide ((t255.size : Int) > 1)), zq0, H', ⟨by first | omega | exact Nat.le_refl _⟩, ⟨by (with_reducible repeat (first | refine blk_drewN ?_ _ | refine blk_drew ?_ | refine blk_alloc ?_ _)); exact BK254.out⟩, ⟨by repeat (first | (with_reducible first | exact HB.out | apply below_alloc | apply pw_below_drewN | apply below_drew1 | refine below_set ?_ GE254.out) | exact HB.out)⟩⟩
      ·rw [if_neg c13] at H
       have c13b0 : ((bt t255 0) == 48) = false := beq_eq_false_iff_ne.mpr c13
       have c13b1 : ((bt t255 0) != 48) = true := bne_iff_ne.mpr c13
       have H' := am_ H
       clear H
       go_wp2_with (first | (go_at_call 48; (with_reducible refine (strings_Trim.calls t255 (⟨#[48, 49, 50, 51, 52, 53, 54, 55, 56, 57]⟩ : ByteArray) t257 _ A9.out).mono ?_); rintro e w17 ⟨rfl, hb⟩; replace BK254 := am_ (blk_below (g := gb254) (o := .cells #[.bool false, .slice none 0 0] 33 (0, 0)) (zq9 BK254.out) hb); replace HB := am_ (below_step zq42 hb); (try clear hb); have p12 : 0 ≤ (0 : Int) := (by omega); have q12 : 0 < t255.size := (by have : (0 : Int) < (t255.size : Int) := of_decide_eq_true zq3; omega); have hx12 : ∀ h : 0 < t255.size, ((t255[0]'h).toNat : Int) = bt t255 0 := bt_at t255 0; clear p12; have qi12 : (0 < (t255.size : Int)) = True := eq_true (of_decide_eq_true zq3); replace q12 := eq_true q12))
       go_meet
       case rel => exact ⟨_, (false), zq0, H', ⟨by first | omega | exact Nat.le_refl _⟩, ⟨by (with_reducible repeat (first | refine blk_drewN ?_ _ | refine blk_drew ?_ | refine blk_alloc ?_ _)); exact BK254.out⟩, ⟨by repeat (first | (with_reducible first | exact HB.out | apply below_alloc | apply pw_below_drewN | apply below_drew1 | refine below_set ?_ GE254.out) | exact HB.out)⟩⟩
     ·rw [if_neg c11] at H
      exact absurd H (by simp)
    ·rw [if_neg c10] at H
     have c10b0 : (t257.toList == ([] : List UInt8)) = false := beq_eq_false_iff_ne.mpr c10
     have c10b1 : (t257.toList != ([] : List UInt8)) = true := bne_iff_ne.mpr c10
     have H' := am_ H
     clear H
     go_wp2_with (first | (go_at_call 48; (with_reducible refine (strings_Trim.calls t255 (⟨#[48, 49, 50, 51, 52, 53, 54, 55, 56, 57]⟩ : ByteArray) t257 _ A9.out).mono ?_); rintro e w18 ⟨rfl, hb⟩; replace BK254 := am_ (blk_below (g := gb254) (o := .cells #[.bool false, .slice none 0 0] 33 (0, 0)) (zq9 BK254.out) hb); replace HB := am_ (below_step zq42 hb); (try clear hb)))
     go_meet
     case rel => exact ⟨_, (true), zq0, H', ⟨by first | omega | exact Nat.le_refl _⟩, ⟨by (with_reducible repeat (first | refine blk_drewN ?_ _ | refine blk_drew ?_ | refine blk_alloc ?_ _)); exact BK254.out⟩, ⟨by repeat (first | (with_reducible first | exact HB.out | apply below_alloc | apply pw_below_drewN | apply below_drew1 | refine below_set ?_ GE254.out) | exact HB.out)⟩⟩
  case rest =>
   clear HC6
   try clear c1
   try clear p1
   try clear q1
   try clear hx1
   try clear qi1
   try clear c2
   try clear c2b0
   try clear c2b1
   try clear p2
   try clear c4
   try clear c8
   try clear c8b0
   try clear c8b1
   try clear c10
   try clear c10b0
   try clear c10b1
   try clear c11
   try clear c11b0
   try clear c11b1
   try clear p12
   try clear q12
   try clear hx12
   try clear qi12
   try clear c13
   try clear c13b0
   try clear c13b1
   try clear c14
   try clear c16
   try clear hcz4_0
   try clear hcz4_1
   try clear hfz4_0
   try clear hfz4_1
   try clear p12
   try clear q12
   obtain ⟨kq, x38_5, rfl, HA, HJ5, BK254, HB⟩ := hcut
   cases kq with
   | zero => exact absurd HA.out (by simp [wide_Parse.j0])
   | succ kj5 =>
    have H := HA.out
    clear HA
    simp only [wide_Parse.j0] at H
    by_cases c19 : x38_5 = true
    ·subst c19
     have H1 : (some (false, ([] : List Int), 2)) = some (r1, r2, r3) := by rw [if_pos rfl] at H; exact H
     clear H
     have H := H1
     clear H1
     simp only [Option.some.injEq, Prod.mk.injEq] at H
     obtain ⟨rfl, rfl, rfl⟩ := H
     have hcz20_0 : wc.cell? ⟨gb254, 0, none⟩ = some (.bool false) := (blk_cell BK254.out 0).trans rfl
     have hcz20_1 : wc.cell? ⟨gb254, 1, none⟩ = some (.slice none 0 0) := (blk_cell BK254.out 1).trans rfl
     have hfz20_0 := blk_frozen BK254.out 0
     have hfz20_1 := blk_frozen BK254.out 1
     go_wp2
     refine bodyPost_ret (results_ct rfl _ _ gb254 33 #[.bool false, .slice none 0 0] (0, 0) _ rfl (zq6 BK254.out) Tryz.underlying33 rfl (by kernel_rfl)) rfl ?_
     exact ⟨_, by first | rfl | (simp [errW_none, errW_some] <;> rfl) | (simp [*, errW_none, errW_some] <;> rfl), Kd.R_V (base := 0) zq38, by repeat (first | (with_reducible first | exact HB.out | apply below_alloc | apply pw_below_drewN | apply below_drew1 | refine below_set ?_ GE254.out) | exact HB.out)⟩
    ·replace c19 := Bool.eq_false_iff.mpr c19
     subst c19
     have H1 : (wide_Parse.l0 kj5 t255 t256 ([] : List Int)) = some (r1, r2, r3) := by rw [if_neg (show ¬ (false = true) by decide)] at H; exact H
     clear H
     have H := H1
     clear H1
     have H' := am_ H
     clear H
     go_wp2
     try simp only [Act.put, List.setIfInBounds_toArray, List.set_cons_zero, List.set_cons_succ]
     go_loopg [4, 6] kj5 (fun kq v4 v6 w' => ∃ (x4_2 : ByteArray) (x6_2 : List Int), v4 = .string x4_2 ∧ Aside0 (wide_Parse.l0 kq x4_2 t256 x6_2 = some (r1, r2, r3)) ∧ Aside0 (kq ≤ kj5) ∧ Aside0 (Kd.V (Kd.int .u32) 81 w' w.heap.size (fun k_ => (w.heap.size ≤ k_) ∧ k_ ≠ gb254) v6 x6_2) ∧ Aside0 (w'.heap[gb254]? = some (.cells #[.bool false, (.slice none 0 0)] 33 (0, 0))) ∧ Aside0 (Below w.heap.size w w'))
     case atStart => exact ⟨(t255), (([] : List Int)), zq0, H', ⟨Nat.le_refl _⟩, ⟨Kd.R_V (base := 0) zq38⟩, ⟨by (with_reducible repeat (first | refine blk_drewN ?_ _ | refine blk_drew ?_ | refine blk_alloc ?_ _)); exact BK254.out⟩, ⟨by repeat (first | (with_reducible first | exact HB.out | apply below_alloc | apply pw_below_drewN | apply below_drew1 | refine below_set ?_ GE254.out) | exact HB.out)⟩⟩
     case round =>
      clear H'
      try clear c1
      try clear p1
      try clear q1
      try clear hx1
      try clear qi1
      try clear c2
      try clear c2b0
      try clear c2b1
      try clear p2
      try clear c4
      try clear c8
      try clear c8b0
      try clear c8b1
      try clear c10
      try clear c10b0
      try clear c10b1
      try clear c11
      try clear c11b0
      try clear c11b1
      try clear p12
      try clear q12
      try clear hx12
      try clear qi12
      try clear c13
      try clear c13b0
      try clear c13b1
      try clear c14
      try clear c16
      try clear c19
      try clear hcz20_0
      try clear hcz20_1
      try clear hcz4_0
      try clear hcz4_1
      try clear hfz20_0
      try clear hfz20_1
      try clear hfz4_0
      try clear hfz4_1
      try clear p1
      try clear p12
      try clear p2
      try clear q1
      try clear q12
      obtain ⟨x4_2, x6_2, rfl, HA, HK2, HO_6, BK254, HB⟩ := hrel
      cases gk with
      | zero => exact absurd HA.out (by simp [wide_Parse.l0])
      | succ k2 =>
       have H := HA.out
       clear HA
       simp only [wide_Parse.l0] at H
       by_cases c21 : (x4_2.size : Int) > 0
       ·rw [if_pos c21] at H
        have c21b0 : decide (0 < (x4_2.size : Int)) = true := decide_eq_true c21
        have c21b1 : decide (0 < x4_2.size) = true := decide_eq_true (by omega)
        clear c21
        obtain ⟨ji22, hji22⟩ : ∃ j_ : Int, (wrap64 ((Int.tmod (wrap64 ((x4_2.size : Int) - 1)) 9) + 1)) = j_ := ⟨_, rfl⟩
        replace H : (if 0 ≤ (ji22) then (if (ji22) ≤ (x4_2.size : Int) then ((strconv_Atoi.f (x4_2.extract 0 ((ji22) : Int).toNat)).bind fun bt263 => ((wide_times.f k2 x6_2 (([1000000000] : List Int))).bind fun t268 => ((wide_sum.f t268 (([(bt263.1) % 4294967296] : List Int))).bind fun t274 => ((wide_normal.f k2 t274).bind fun t277 => (wide_Parse.l0 k2 (x4_2.extract ((ji22) : Int).toNat x4_2.size) t256 t277))))) else (none)) else (none)) = some (r1, r2, r3) := by first | (rw [hji22] at H; exact H) | (simp only [hji22] at H ⊢; exact H)
        have hji22w : (IntKind.i64.wrap ((Int.tmod (wrap64 ((x4_2.size : Int) - 1)) 9) + 1)) = ji22 := (i64_w _).trans hji22
        by_cases c23 : 0 ≤ (ji22)
        ·rw [if_pos c23] at H
         have c23b0 := eq_true c23
         have c23b1 : decide (0 ≤ (ji22)) = true := decide_eq_true c23
         clear c23
         by_cases c24 : (ji22) ≤ (x4_2.size : Int)
         ·rw [if_pos c24] at H
          have c24b0 := eq_true c24
          have c24b1 : decide ((ji22) ≤ (x4_2.size : Int)) = true := decide_eq_true c24
          clear c24
          replace H := Option.bind_eq_some_iff.mp H
          obtain ⟨⟨t263, t264⟩, A250, H⟩ := H
          replace H : ((wide_times.f k2 x6_2 (([1000000000] : List Int))).bind fun t268 => ((wide_sum.f t268 (([(t263) % 4294967296] : List Int))).bind fun t274 => ((wide_normal.f k2 t274).bind fun t277 => (wide_Parse.l0 k2 (x4_2.extract ((ji22) : Int).toNat x4_2.size) t256 t277)))) = some (r1, r2, r3) := H
          have A25 := am_ A250
          clear A250
          have c26b0 := eq_true (of_decide_eq_true zq3 : 0 ≤ (ji22))
          have c27b0 := eq_true (of_decide_eq_true zq3 : (ji22) ≤ (x4_2.size : Int))
          obtain ⟨y265, hy265⟩ : ∃ y_ : List Int, y_ = (([1000000000] : List Int)) := ⟨_, rfl⟩
          replace H : ((wide_times.f k2 x6_2 y265).bind fun t268 => ((wide_sum.f t268 (([(t263) % 4294967296] : List Int))).bind fun t274 => ((wide_normal.f k2 t274).bind fun t277 => (wide_Parse.l0 k2 (x4_2.extract ((ji22) : Int).toNat x4_2.size) t256 t277)))) = some (r1, r2, r3) := by first | (rw [hy265]; with_reducible exact H) | (have H2_ := (Option.bind_some _ _).symm.trans H; rw [hy265]; with_reducible exact H2_) | (have H2_ := (Option.bind_some _ _).symm.trans H; with_reducible exact H2_) | with_reducible exact H | (rw [hy265]; exact H) | exact H
          have Ny265 := am_ hy265
          clear hy265
          replace H := Option.bind_eq_some_iff.mp H
          obtain ⟨t268, A280, H⟩ := H
          replace H : ((wide_sum.f t268 (([(t263) % 4294967296] : List Int))).bind fun t274 => ((wide_normal.f k2 t274).bind fun t277 => (wide_Parse.l0 k2 (x4_2.extract ((ji22) : Int).toNat x4_2.size) t256 t277))) = some (r1, r2, r3) := H
          have A28 := am_ A280
          clear A280
          obtain ⟨y271, hy271⟩ : ∃ y_ : List Int, y_ = (([(t263) % 4294967296] : List Int)) := ⟨_, rfl⟩
          replace H : ((wide_sum.f t268 y271).bind fun t274 => ((wide_normal.f k2 t274).bind fun t277 => (wide_Parse.l0 k2 (x4_2.extract ((ji22) : Int).toNat x4_2.size) t256 t277))) = some (r1, r2, r3) := by first | (rw [hy271]; with_reducible exact H) | (have H2_ := (Option.bind_some _ _).symm.trans H; rw [hy271]; with_reducible exact H2_) | (have H2_ := (Option.bind_some _ _).symm.trans H; with_reducible exact H2_) | with_reducible exact H | (rw [hy271]; exact H) | exact H
          have Ny271 := am_ hy271
          clear hy271
          replace H := Option.bind_eq_some_iff.mp H
          obtain ⟨t274, A290, H⟩ := H
          replace H : ((wide_normal.f k2 t274).bind fun t277 => (wide_Parse.l0 k2 (x4_2.extract ((ji22) : Int).toNat x4_2.size) t256 t277)) = some (r1, r2, r3) := H
          have A29 := am_ A290
          clear A290
          replace H := Option.bind_eq_some_iff.mp H
          obtain ⟨t277, A300, H⟩ := H
          replace H : (wide_Parse.l0 k2 (x4_2.extract ((ji22) : Int).toNat x4_2.size) t256 t277) = some (r1, r2, r3) := H
          have A30 := am_ A300
          clear A300
          have H' := am_ H
          clear H
          go_wp2_with (first | ((with_reducible refine gate_callee (f := 49) rfl ?_); refine goesL_ (some 52) rfl rfl Tryz.func49 (by kernel_rfl) rfl #[.string (x4_2.extract 0 ((ji22) : Int).toNat)] rfl (by (try simp only [List.map_toArray, List.map_cons, List.map_nil]); first | done | (simp only [hji22]; rfl) | rfl | (simp only [List.length_drop, List.length_take]; rfl)) ?_; (with_reducible refine (strconv_Atoi.calls (x4_2.extract 0 ((ji22) : Int).toNat) t263 t264 _ A25.out).mono ?_); rintro e w31 ⟨rfl, hb⟩; refine ⟨_, rfl, ?_⟩; replace HO_6 := am_ (Kd.V_below (zq5 HO_6.out) hb); replace BK254 := am_ (blk_below (g := gb254) (o := .cells #[.bool false, .slice none 0 0] 33 (0, 0)) (zq9 BK254.out) hb); replace HB := am_ (below_step zq42 hb); (try clear hb); (try simp only [errW_none, errW_some])) | ((with_reducible refine gate_dst (N := 59) rfl ?_); (try (refine gate_guard (by rfl) ?_; dsimp only)); refine Kd.R_lit (Kd.int .u32) _ 81 ?hg (N := 59) ?hd (xs := ([1000000000] : List Int)) (inner := [.int .u32 1000000000]) (ok := fun _ => True) (okp := fun _ => True) ?hr ?hp (fun _ hk => hk) trivial (Below.refl _ _) (Nat.le_refl _) (by simp) ?_; (case hd => rfl); (case hg => rfl); (case hr => exact zq1); (case hp => exact (Reps.one (show Kd.M (Kd.int .u32) _ _ _ 1000000000 [.int .u32 1000000000] from rfl) (Reps.none _ _))); intro v266 w32 ho33 hb hg_ hnew_; clear hg_ hnew_; (first | rw [← Ny265.out] at ho33 | (simp only [Int.reduceToNat] at ho33; rw [← Ny265.out] at ho33)); replace HO_6 := am_ (Kd.V_elder' (zq5 HO_6.out) (Kd.R_base ho33) hb); have HO267 := am_ (Kd.R_lower (Kd.R_newM (M := fun k_ => (w.heap.size ≤ k_)) ho33 (below_size zq42) (fun k_ h_ => h_)) (below_size zq42)); replace BK254 := am_ (blk_below (g := gb254) (o := .cells #[.bool false, .slice none 0 0] 33 (0, 0)) (zq9 BK254.out) hb); replace HB := am_ (below_step zq42 hb); clear hb ho33; obtain ⟨Ao34, co34, eo34⟩ := Kd.V_slice HO_6.out; subst eo34; obtain ⟨Ao35, co35, eo35⟩ := Kd.R_slice HO267.out; subst eo35) | ((with_reducible refine gate_callee (f := 52) rfl ?_); refine goesL_ (some 60) rfl rfl Tryz.func52 (by kernel_rfl) rfl #[.slice Ao34 x6_2.length co34, .slice Ao35 y265.length co35] rfl zq4 ?_; (with_reducible refine (wide_times.calls k2 _ _ x6_2 _ _ y265 t268 _ ?side1 ?side2 ?side3 ?side4 A28.out).mono ?_); (case side1 => exact (zq31 HO_6.out)); (case side2 => exact (Kd.V_reads' HO_6.out).2.1); (case side3 => exact (zq43 HO267.out)); (case side4 => exact (Kd.R_reads' HO267.out).2.1); rintro e w36 ⟨v269, rfl, ho0, hb⟩; refine ⟨_, rfl, ?_⟩; have n0_ := am_ (Kd.V_elder' (zq5 HO_6.out) (Kd.R_base ho0) hb); have n1_ := am_ (Kd.R_elder' (zq7 HO267.out) (Kd.R_base ho0) hb); have n2_ := am_ (Kd.R_lower (Kd.R_new' (Kd.R_newM (M := fun k_ => (w.heap.size ≤ k_)) ho0 (below_size zq42) (fun k_ h_ => h_)) (Kd.R_lt (zq7 HO267.out))) (below_size zq42)); have n3_ := am_ (blk_below (g := gb254) (o := .cells #[.bool false, .slice none 0 0] 33 (0, 0)) (zq9 BK254.out) hb); have n4_ := am_ (below_step zq42 hb); clear HO_6 HO267 BK254 HB; have HO_6 := n0_; have HO267 := n1_; have HO270 := n2_; have BK254 := n3_; have HB := n4_; clear n0_ n1_ n2_ n3_ n4_; (try clear hb); (try clear ho0)) | ((with_reducible refine gate_dst (N := 63) rfl ?_); (try (refine gate_guard (by rfl) ?_; dsimp only)); refine Kd.R_lit (Kd.int .u32) _ 81 ?hg (N := 63) ?hd (xs := ([(t263) % 4294967296] : List Int)) (inner := [.int .u32 ((t263) % 4294967296)]) (ok := fun _ => True) (okp := fun _ => True) ?hr ?hp (fun _ hk => hk) trivial (Below.refl _ _) (Nat.le_refl _) (by simp) ?_; (case hd => rfl); (case hg => rfl); (case hr => exact zq1); (case hp => exact (Reps.one (show Kd.M (Kd.int .u32) _ _ _ ((t263) % 4294967296) [.int .u32 ((t263) % 4294967296)] from rfl) (Reps.none _ _))); intro v272 w37 ho38 hb hg_ hnew_; clear hg_ hnew_; (first | rw [← Ny271.out] at ho38 | (simp only [Int.reduceToNat] at ho38; rw [← Ny271.out] at ho38)); have n0_ := am_ (Kd.V_elder' (zq5 HO_6.out) (Kd.R_base ho38) hb); have n1_ := am_ (Kd.R_elder' (zq7 HO267.out) (Kd.R_base ho38) hb); have n2_ := am_ (Kd.R_elder' (zq7 HO270.out) (Kd.R_base ho38) hb); have n3_ := am_ (Kd.R_lower (Kd.R_new' (Kd.R_new' (Kd.R_newM (M := fun k_ => (w.heap.size ≤ k_)) ho38 (below_size zq42) (fun k_ h_ => h_)) (Kd.R_lt (zq7 HO267.out))) (Kd.R_lt (zq7 HO270.out))) (below_size zq42)); have n4_ := am_ (blk_below (g := gb254) (o := .cells #[.bool false, .slice none 0 0] 33 (0, 0)) (zq9 BK254.out) hb); have n5_ := am_ (below_step zq42 hb); clear HO_6 HO267 HO270 BK254 HB; have HO_6 := n0_; have HO267 := n1_; have HO270 := n2_; have HO273 := n3_; have BK254 := n4_; have HB := n5_; clear n0_ n1_ n2_ n3_ n4_ n5_; clear hb ho38; obtain ⟨Ao39, co39, eo39⟩ := Kd.R_slice HO270.out; subst eo39; obtain ⟨Ao40, co40, eo40⟩ := Kd.R_slice HO273.out; subst eo40) | ((with_reducible refine gate_callee (f := 51) rfl ?_); refine goesL_ (some 64) rfl rfl Tryz.func51 (by kernel_rfl) rfl #[.slice Ao39 t268.length co39, .slice Ao40 y271.length co40] rfl zq4 ?_; (with_reducible refine (wide_sum.calls _ _ t268 _ _ y271 t274 _ ?side1 ?side2 ?side3 ?side4 A29.out).mono ?_); (case side1 => exact (zq43 HO270.out)); (case side2 => exact (Kd.R_reads' HO270.out).2.1); (case side3 => exact (zq43 HO273.out)); (case side4 => exact (Kd.R_reads' HO273.out).2.1); rintro e w41 ⟨v275, rfl, ho0, hb⟩; refine ⟨_, rfl, ?_⟩; have n0_ := am_ (Kd.V_elder' (zq5 HO_6.out) (Kd.R_base ho0) hb); have n1_ := am_ (Kd.R_elder' (zq7 HO267.out) (Kd.R_base ho0) hb); have n2_ := am_ (Kd.R_elder' (zq7 HO270.out) (Kd.R_base ho0) hb); have n3_ := am_ (Kd.R_elder' (zq7 HO273.out) (Kd.R_base ho0) hb); have n4_ := am_ (Kd.R_lower (Kd.R_new' (Kd.R_new' (Kd.R_new' (Kd.R_newM (M := fun k_ => (w.heap.size ≤ k_)) ho0 (below_size zq42) (fun k_ h_ => h_)) (Kd.R_lt (zq7 HO267.out))) (Kd.R_lt (zq7 HO270.out))) (Kd.R_lt (zq7 HO273.out))) (below_size zq42)); have n5_ := am_ (blk_below (g := gb254) (o := .cells #[.bool false, .slice none 0 0] 33 (0, 0)) (zq9 BK254.out) hb); have n6_ := am_ (below_step zq42 hb); clear HO_6 HO267 HO270 HO273 BK254 HB; have HO_6 := n0_; have HO267 := n1_; have HO270 := n2_; have HO273 := n3_; have HO276 := n4_; have BK254 := n5_; have HB := n6_; clear n0_ n1_ n2_ n3_ n4_ n5_ n6_; (try clear hb); (try clear ho0); obtain ⟨Ao42, co42, eo42⟩ := Kd.R_slice HO276.out; subst eo42) | ((with_reducible refine gate_callee (f := 50) rfl ?_); refine goesL_ (some 65) rfl rfl Tryz.func50 (by kernel_rfl) rfl #[.slice Ao42 t274.length co42] rfl zq4 ?_; (with_reducible refine (wide_normal.calls k2 (fun k_ => some k_ = (.slice Ao42 t274.length co42 : Value).ownBlock) _ _ t274 t277 _ ?side1 A30.out).mono ?_); (case side1 => exact Kd.R_V (Kd.R_tight rfl (Kd.R_types (HO276.out) BK254.out (by decide)))); rintro e w43 ⟨v278, rfl, ho0, hb⟩; refine ⟨_, rfl, ?_⟩; have n0_ := am_ (Kd.V_below (zq5 HO_6.out) hb); have n1_ := am_ (Kd.R_below (zq7 HO267.out) hb); have n2_ := am_ (Kd.R_below (zq7 HO270.out) hb); have n3_ := am_ (Kd.R_below (zq7 HO273.out) hb); have n4_ := am_ (Kd.R_below (zq7 HO276.out) hb); have n5_ := am_ (Kd.V_lower (Kd.V_mono (ok' := fun k_ => (w.heap.size ≤ k_) ∧ some k_ ≠ (.slice Ao35 y265.length co35 : Value).ownBlock ∧ some k_ ≠ (.slice Ao39 t268.length co39 : Value).ownBlock ∧ some k_ ≠ (.slice Ao40 y271.length co40 : Value).ownBlock ∧ k_ ≠ gb254) ho0 (fun k_ hk_ => ⟨Or.elim hk_ (fun hs_ => ((Kd.R_types (HO276.out) BK254.out (by decide)).1 k_ hs_.symm).1.1.1.1.1) (fun hn_ => (Nat.le_trans (below_size zq42) hn_)), Or.elim hk_ (fun hs_ => ((Kd.R_types (HO276.out) BK254.out (by decide)).1 k_ hs_.symm).1.1.1.2) (fun hn_ => (Kd.fresh' (Kd.R_lt (zq7 HO267.out)) k_ hn_)), Or.elim hk_ (fun hs_ => ((Kd.R_types (HO276.out) BK254.out (by decide)).1 k_ hs_.symm).1.1.2) (fun hn_ => (Kd.fresh' (Kd.R_lt (zq7 HO270.out)) k_ hn_)), Or.elim hk_ (fun hs_ => ((Kd.R_types (HO276.out) BK254.out (by decide)).1 k_ hs_.symm).1.2) (fun hn_ => (Kd.fresh' (Kd.R_lt (zq7 HO273.out)) k_ hn_)), Or.elim hk_ (fun hs_ => ((Kd.R_types (HO276.out) BK254.out (by decide)).1 k_ hs_.symm).2) (fun hn_ => (Kd.freshB (g := gb254) (o := .cells #[.bool false, .slice none 0 0] 33 (0, 0)) (zq9 BK254.out) k_ hn_))⟩)) (below_size zq42)); have n6_ := am_ (blk_below (g := gb254) (o := .cells #[.bool false, .slice none 0 0] 33 (0, 0)) (zq9 BK254.out) hb); have n7_ := am_ (below_step zq42 hb); clear HO_6 HO267 HO270 HO273 HO276 BK254 HB; have HO_6 := n0_; have HO267 := n1_; have HO270 := n2_; have HO273 := n3_; have HO276 := n4_; have HO279 := n5_; have BK254 := n6_; have HB := n7_; clear n0_ n1_ n2_ n3_ n4_ n5_ n6_ n7_; (try clear hb); (try clear ho0)))
          go_roundg k2
          case measure => have := HJ5.out; have := HK2.out; omega
          case rel => exact ⟨(x4_2.extract ((ji22) : Int).toNat x4_2.size), (t277), (by first | rfl | (simp; done) | (simp only [← hji22] <;> (first | rfl | simp)) | (simp [*]; done)), H', ⟨by have := HJ5.out; have := HK2.out; omega⟩, ⟨by (with_reducible repeat (first | apply Kd.V_alloc | apply Kd.V_drewN | apply Kd.V_drew)); exact Kd.V_mono HO279.out (fun _ hk => ⟨hk.1, hk.2.2.2.2⟩)⟩, ⟨by (with_reducible repeat (first | refine blk_drewN ?_ _ | refine blk_drew ?_ | refine blk_alloc ?_ _)); exact BK254.out⟩, ⟨by repeat (first | (with_reducible first | exact HB.out | apply below_alloc | apply pw_below_drewN | apply below_drew1 | refine below_set ?_ GE254.out) | exact HB.out)⟩⟩
         ·rw [if_neg c24] at H
          exact absurd H (by simp)
        ·rw [if_neg c23] at H
         exact absurd H (by simp)
       ·rw [if_neg c21] at H
        have c21b0 : decide (0 < (x4_2.size : Int)) = false := decide_eq_false c21
        have c21b1 : decide (0 < x4_2.size) = false := decide_eq_false (by omega)
        clear c21
        replace H := Option.bind_eq_some_iff.mp H
        obtain ⟨⟨t258, t259, t262⟩, A440, H⟩ := H
        replace H : (some (t258, t259, t262)) = some (r1, r2, r3) := H
        have A44 := am_ A440
        clear A440
        simp only [Option.some.injEq, Prod.mk.injEq] at H
        obtain ⟨rfl, rfl, rfl⟩ := H
        obtain ⟨Ao45, co45, eo45⟩ := Kd.V_slice HO_6.out
        subst eo45
        go_wp2_with (first | ((with_reducible refine gate_callee (f := 53) rfl ?_); refine goesL_ (some 68) rfl rfl Tryz.func53 (by kernel_rfl) rfl #[.bool t256, .slice Ao45 x6_2.length co45] rfl zq4 ?_; (with_reducible refine (wide_signed.calls k2 t256 (fun k_ => ((w.heap.size ≤ k_) ∧ k_ ≠ gb254)) _ _ x6_2 t258 t259 t262 _ ?side1 A44.out).mono ?_); (case side1 => exact HO_6.out); rintro e w46 ⟨v260, rfl, ho0, hb⟩; refine ⟨_, rfl, ?_⟩; have HO261 := am_ (Kd.V_lower (Kd.V_mono (ok' := fun k_ => (w.heap.size ≤ k_) ∧ k_ ≠ gb254) ho0 (fun k_ hk_ => ⟨Or.elim hk_ (fun hs_ => hs_.1) (fun hn_ => (Nat.le_trans (below_size zq42) hn_)), Or.elim hk_ (fun hs_ => hs_.2) (fun hn_ => (Kd.freshB (g := gb254) (o := .cells #[.bool false, .slice none 0 0] 33 (0, 0)) (zq9 BK254.out) k_ hn_))⟩)) (below_size zq42)); replace BK254 := am_ (blk_below (g := gb254) (o := .cells #[.bool false, .slice none 0 0] 33 (0, 0)) (zq9 BK254.out) hb); replace HB := am_ (below_step zq42 hb); (try clear hb); (try clear ho0); have hcz47_0 : w46.cell? ⟨gb254, 0, none⟩ = some (.bool false) := (blk_cell BK254.out 0).trans rfl; have hcz47_1 : w46.cell? ⟨gb254, 1, none⟩ = some (.slice none 0 0) := (blk_cell BK254.out 1).trans rfl; have hfz47_0 := blk_frozen BK254.out 0; have hfz47_1 := blk_frozen BK254.out 1; obtain ⟨Ao48, co48, eo48⟩ := Kd.V_slice HO261.out; subst eo48))
        refine bodyPost_ret (results_ct rfl _ _ gb254 33 #[.bool t258, .slice Ao48 t259.length co48] (0, 0) _ rfl (by (with_reducible repeat (first | refine blk_drewN ?_ _ | refine blk_drew ?_ | refine blk_alloc ?_ _)); refine blk_put (cs := #[.bool t258, .slice none 0 0]) ?_ 1 _ rfl; (with_reducible repeat (first | refine blk_drewN ?_ _ | refine blk_drew ?_ | refine blk_alloc ?_ _)); refine blk_put (cs := #[.bool false, .slice none 0 0]) ?_ 0 _ rfl; (with_reducible repeat (first | refine blk_drewN ?_ _ | refine blk_drew ?_ | refine blk_alloc ?_ _)); exact BK254.out) Tryz.underlying33 rfl (by kernel_rfl)) rfl ?_
        exact ⟨_, by first | rfl | (simp [errW_none, errW_some] <;> rfl) | (simp [*, errW_none, errW_some] <;> rfl), by (with_reducible repeat (first | apply Kd.V_alloc | apply Kd.V_drewN | apply Kd.V_drew)); exact Kd.V_mono (Kd.V_far (p := ⟨gb254, 1, none⟩) (Kd.V_far (p := ⟨gb254, 0, none⟩) (Kd.V_mono HO261.out (fun k_ hk => (⟨hk, hk.2⟩ : _ ∧ k_ ≠ gb254))) (fun _ hk => hk.2) (.bool t258)) (fun _ hk => hk.2) (.slice Ao48 t259.length co48)) (fun _ hk => hk.1.1), by repeat (first | (with_reducible first | exact HB.out | apply below_alloc | apply pw_below_drewN | apply below_drew1 | refine below_set ?_ GE254.out) | exact HB.out)⟩

/-! ### worldmintref05_Fits: function 43 -/
def worldmintref05_Fits.f (k : Nat) (a0_0 : Bool) (l0_1 : List Int) : Option (Bool) := if (l0_1.length : Int) < 1230 then (some true) else ((worldmintref05_Power.f k 16384).bind fun bt281 => ((worldmintref05_compared.f k l0_1 bt281.2).bind fun t286 => (some (decide (t286 < 0)))))
theorem worldmintref05_Fits.mono : ∀ a0 a1 k, LeO (worldmintref05_Fits.f k a0 a1) (worldmintref05_Fits.f (k + 1) a0 a1) := by
 intro a0 a1 k
 unfold worldmintref05_Fits.f
 repeat' first
   | (with_reducible exact worldmintref05_Power.mono _ _)
   | (with_reducible exact worldmintref05_compared.mono _ _ _)
   | (with_reducible exact LeO.refl _)
   | (with_reducible exact LeO.none _)
   | (with_reducible refine LeO.ite ?_ ?_)
   | (with_reducible refine LeO.bind ?_ (fun _ => ?_))
   | exact worldmintref05_Power.mono _ _
   | exact worldmintref05_compared.mono _ _ _
   | exact LeO.none _
   | refine LeO.ite ?_ ?_
   | refine LeO.bind ?_ (fun _ => ?_)
set_option maxHeartbeats 8000000 in
set_option maxRecDepth 100000 in
theorem worldmintref05_Fits.calls (k : Nat) (a0_0 : Bool) (A0_1 : Option Addr) (c0_1 : Nat) (l0_1 : List Int) (r : Bool) (w : World) (hr0_1 : Kd.C (Kd.int .i64) w A0_1 l0_1.length l0_1) (hc0_1 : l0_1.length ≤ c0_1) (h : worldmintref05_Fits.f k a0_0 l0_1 = some r) :
  Calls Tryz.prog 43 #[.agg #[.bool a0_0, .slice A0_1 l0_1.length c0_1]] w fun e w' => e = .returned (.bool r) ∧ Below w.heap.size w w' := by
 have hu25 := Tryz.underlying25
 have HR0_1 := am_ hr0_1
 have HC0_1 := am_ hc0_1
 clear hr0_1 hc0_1
 have HB := am_ (Below.refl w.heap.size w)
 have H : (if (l0_1.length : Int) < 1230 then (some true) else ((worldmintref05_Power.f k 16384).bind fun bt281 => ((worldmintref05_compared.f k l0_1 bt281.2).bind fun t286 => (some (decide (t286 < 0)))))) = some r := h
 clear h
 by_cases c2 : (l0_1.length : Int) < 1230
 ·rw [if_pos c2] at H
  have c2b0 : decide ((l0_1.length : Int) < 1230) = true := decide_eq_true c2
  have c2b1 : decide (l0_1.length < 1230) = true := decide_eq_true (by omega)
  clear c2
  obtain rfl := Option.some.inj H
  go_enter Tryz.func43, Tryz.ntmps43
  go_wp2_with (first | ((with_reducible refine gate_dst (N := 1) rfl ?_); refine box_event ?hg (N := 1) ?hd (cs := #[.bool a0_0, .slice A0_1 l0_1.length c0_1]) (t := 25) ?hr ?_; (case hd => rfl); (case hg => rfl); (case hr => exact zq1); intro gb280 hg w3 hbox hb; have n0_ := am_ (below_step zq2 hb); have n1_ := am_ (hbox); have n2_ := am_ ((by rw [hg]; exact (below_size zq2) : w.heap.size ≤ gb280)); clear HB; have HB := n0_; have BK280 := n1_; have GE280 := n2_; clear n0_ n1_ n2_; clear hb hbox hg; have hcz4_0 : w3.cell? ⟨gb280, 0, none⟩ = some (.bool a0_0) := (blk_cell BK280.out 0).trans rfl; have hcz4_1 : w3.cell? ⟨gb280, 1, none⟩ = some (.slice A0_1 l0_1.length c0_1) := (blk_cell BK280.out 1).trans rfl; have hfz4_0 := blk_frozen BK280.out 0; have hfz4_1 := blk_frozen BK280.out 1))
  go_ret
  exact ⟨by first | rfl | (simp [errW_none, errW_some] <;> rfl) | (simp [*, errW_none, errW_some] <;> rfl), by repeat (first | (with_reducible first | exact HB.out | apply below_alloc | apply pw_below_drewN | apply below_drew1 | refine below_set ?_ GE280.out) | exact HB.out)⟩
 ·rw [if_neg c2] at H
  have c2b0 : decide ((l0_1.length : Int) < 1230) = false := decide_eq_false c2
  have c2b1 : decide (l0_1.length < 1230) = false := decide_eq_false (by omega)
  clear c2
  replace H := Option.bind_eq_some_iff.mp H
  obtain ⟨⟨t281, t282⟩, A50, H⟩ := H
  replace H : ((worldmintref05_compared.f k l0_1 t282).bind fun t286 => (some (decide (t286 < 0)))) = some r := H
  have A5 := am_ A50
  clear A50
  replace H := Option.bind_eq_some_iff.mp H
  obtain ⟨t286, A60, H⟩ := H
  replace H : (some (decide (t286 < 0))) = some r := H
  have A6 := am_ A60
  clear A60
  obtain rfl := Option.some.inj H
  go_enter Tryz.func43, Tryz.ntmps43
  go_wp2_with (first | ((with_reducible refine gate_dst (N := 1) rfl ?_); refine box_event ?hg (N := 1) ?hd (cs := #[.bool a0_0, .slice A0_1 l0_1.length c0_1]) (t := 25) ?hr ?_; (case hd => rfl); (case hg => rfl); (case hr => exact zq1); intro gb280 hg w7 hbox hb; have n0_ := am_ (below_step zq2 hb); have n1_ := am_ (hbox); have n2_ := am_ ((by rw [hg]; exact (below_size zq2) : w.heap.size ≤ gb280)); clear HB; have HB := n0_; have BK280 := n1_; have GE280 := n2_; clear n0_ n1_ n2_; clear hb hbox hg; have hcz8_0 : w7.cell? ⟨gb280, 0, none⟩ = some (.bool a0_0) := (blk_cell BK280.out 0).trans rfl; have hcz8_1 : w7.cell? ⟨gb280, 1, none⟩ = some (.slice A0_1 l0_1.length c0_1) := (blk_cell BK280.out 1).trans rfl; have hfz8_0 := blk_frozen BK280.out 0; have hfz8_1 := blk_frozen BK280.out 1) | ((with_reducible refine gate_callee (f := 46) rfl ?_); refine goesL_ (some 8) rfl rfl Tryz.func46 (by kernel_rfl) rfl #[.int .i64 16384] rfl zq4 ?_; (with_reducible refine (worldmintref05_Power.calls k 16384 t281 t282 _ A5.out).mono ?_); rintro e w9 ⟨v283, rfl, ho0, hb⟩; refine ⟨_, rfl, ?_⟩; have HO284 := am_ (Kd.V_lower (Kd.V_mono (ok' := fun k_ => k_ ≠ gb280) ho0 (fun k_ hk_ => (Kd.freshB (g := gb280) (o := .cells #[.bool a0_0, .slice A0_1 l0_1.length c0_1] 25 (0, 0)) (zq9 BK280.out) k_ hk_))) (below_size zq44)); replace BK280 := am_ (blk_below (g := gb280) (o := .cells #[.bool a0_0, .slice A0_1 l0_1.length c0_1] 25 (0, 0)) (zq9 BK280.out) hb); replace HB := am_ (below_step zq44 hb); (try clear hb); (try clear ho0)) | ((with_reducible refine gate_dst (N := 3) rfl ?_); refine box_event ?hg (N := 3) ?hd (cs := #[.bool false, .slice none 0 0]) (t := 25) ?hr ?_; (case hd => rfl); (case hg => rfl); (case hr => exact zq1); intro gb285 hg w10 hbox hb; have n0_ := am_ (Kd.V_below (Kd.V_elderB (zq5 HO284.out) gb285 (Nat.le_of_eq hg.symm)) hb); have n1_ := am_ (blk_below (g := gb280) (o := .cells #[.bool a0_0, .slice A0_1 l0_1.length c0_1] 25 (0, 0)) (zq9 BK280.out) hb); have n2_ := am_ (below_step zq44 hb); have n3_ := am_ (hbox); have n4_ := am_ ((by rw [hg]; exact (below_size zq44) : w.heap.size ≤ gb285)); have n5_ := am_ ((by rw [hg]; exact Nat.ne_of_lt (blk_lt (g := gb280) (zq9 BK280.out)) : gb280 ≠ gb285)); have n6_ := am_ ((by rw [hg]; exact Nat.ne_of_gt (blk_lt (g := gb280) (zq9 BK280.out)) : gb285 ≠ gb280)); clear HO284 BK280 HB; have HO284 := n0_; have BK280 := n1_; have HB := n2_; have BK285 := n3_; have GE285 := n4_; have NB280_285 := n5_; have NB285_280 := n6_; clear n0_ n1_ n2_ n3_ n4_ n5_ n6_; clear hb hbox hg; have hnb11 := NB285_280.out; have hnc11 := NB280_285.out; have hcz12_0 : w10.cell? ⟨gb285, 0, none⟩ = some (.bool false) := (blk_cell BK285.out 0).trans rfl; have hcz12_1 : w10.cell? ⟨gb285, 1, none⟩ = some (.slice none 0 0) := (blk_cell BK285.out 1).trans rfl; have hfz12_0 := blk_frozen BK285.out 0; have hfz12_1 := blk_frozen BK285.out 1; obtain ⟨Ao13, co13, eo13⟩ := Kd.V_slice HO284.out; subst eo13; have hcz14_0 : w10.cell? ⟨gb280, 0, none⟩ = some (.bool a0_0) := (blk_cell BK280.out 0).trans rfl; have hcz14_1 : w10.cell? ⟨gb280, 1, none⟩ = some (.slice A0_1 l0_1.length c0_1) := (blk_cell BK280.out 1).trans rfl; have hfz14_0 := blk_frozen BK280.out 0; have hfz14_1 := blk_frozen BK280.out 1) | ((with_reducible refine gate_callee (f := 62) rfl ?_); refine goesL_ (some 13) rfl rfl Tryz.func62 (by kernel_rfl) rfl #[.slice A0_1 l0_1.length c0_1, .slice Ao13 t282.length co13] rfl zq4 ?_; (with_reducible refine (worldmintref05_compared.calls k _ _ l0_1 _ _ t282 t286 _ ?side1 ?side2 ?side3 ?side4 A6.out).mono ?_); (case side1 => exact Kd.C_below HR0_1.out (by repeat (first | (with_reducible first | exact HB.out | apply below_alloc | apply pw_below_drewN | apply below_drew1 | refine below_set ?_ GE280.out | refine below_set ?_ GE285.out) | exact HB.out))); (case side2 => exact HC0_1.out); (case side3 => refine (Kd.V_reads' (e := 3) (base := w.heap.size) (ok := fun k_ => (k_ ≠ gb280 ∧ k_ ≠ gb285)) (n := t282.length) (c := co13) ?_).2.2; exact (by (with_reducible repeat (first | apply Kd.V_alloc | apply Kd.V_drewN | apply Kd.V_drew)); exact (Kd.V_mono (Kd.V_far (p := ⟨gb285, 1, none⟩) (Kd.V_far (p := ⟨gb285, 0, none⟩) (Kd.V_mono HO284.out (fun k_ hk => (⟨hk, hk.2⟩ : _ ∧ k_ ≠ gb285))) (fun _ hk => hk.2) (.bool t281)) (fun _ hk => hk.2) (.slice Ao13 t282.length co13)) (fun _ h_ => h_.1)))); (case side4 => exact (Kd.V_reads' HO284.out).2.1); rintro e w' ⟨rfl, ⟨nd, rfl⟩⟩; refine ⟨_, rfl, ?_⟩))
  go_ret
  exact ⟨by first | rfl | (simp [errW_none, errW_some] <;> rfl) | (simp [*, errW_none, errW_some] <;> rfl), by repeat (first | (with_reducible first | exact HB.out | apply below_alloc | apply pw_below_drewN | apply below_drew1 | refine below_set ?_ GE280.out | refine below_set ?_ GE285.out) | exact HB.out)⟩

end Go.Proofs.YtlceokefdihdkaaGreatDoor.X
