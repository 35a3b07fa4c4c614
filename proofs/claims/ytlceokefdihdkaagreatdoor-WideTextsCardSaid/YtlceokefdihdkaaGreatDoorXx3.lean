-- Written by a program of this session (xprint) out of the translation: Lean checks it.
import Derived.Test.YtlceokefdihdkaaGreatDoorXx0
import Derived.Test.YtlceokefdihdkaaGreatDoorXx1
import Derived.Test.YtlceokefdihdkaaGreatDoorXx2
namespace Go.Proofs.YtlceokefdihdkaaGreatDoor.X
open Go.RowKit Go.Proofs.YtlceokefdihdkaaGreatDoorW.PrintWords Go.Proofs.YtlceokefdihdkaaGreatDoorW.PrintLast Go.Proofs.YtlceokefdihdkaaGreatDoorW.PrintMore
attribute [local go_sem] max2_int min2_int max_two min_two max_three min_three max_four min_four   -- for this text's walks alone
set_option linter.unusedVariables false
set_option linter.unusedSimpArgs false

/-! ### worldmintref05_minus: function 63 -/
def worldmintref05_minus.l0 : Nat → List Int → List Int → List Int → Int → Int → Option (List Int)
 | 0, _, _, _, _, _ => none
 | k + 1, x0, x1, x5, x6, x7 => if x7 < (x0.length : Int) then ((worldmintref05_at.f x0 x7).bind fun t149 => ((worldmintref05_at.f x1 x7).bind fun t150 => (if (wrap64 ((wrap64 (t149 - t150)) - x6)) < 0 then (if x5.length < 17592186044416 then (worldmintref05_minus.l0 k x0 x1 (x5 ++ [wrap64 ((wrap64 ((wrap64 (t149 - t150)) - x6)) + 10000)]) 1 (wrap64 (x7 + 1))) else (none)) else (if x5.length < 17592186044416 then (worldmintref05_minus.l0 k x0 x1 (x5 ++ [wrap64 ((wrap64 (t149 - t150)) - x6)]) 0 (wrap64 (x7 + 1))) else (none))))) else (some x5)
def worldmintref05_minus.f (k : Nat) (l0 : List Int) (l1 : List Int) : Option (List Int) := worldmintref05_minus.l0 k l0 l1 ([] : List Int) 0 0
theorem worldmintref05_minus.mono_l : ∀ k, (∀ y0 y1 y2 y3 y4, LeO (worldmintref05_minus.l0 k y0 y1 y2 y3 y4) (worldmintref05_minus.l0 (k + 1) y0 y1 y2 y3 y4))
 | 0 => fun _ _ _ _ _ r h => by simp [worldmintref05_minus.l0] at h
 | k + 1 => by
  have ih0 := worldmintref05_minus.mono_l k
  ·intro y0 y1 y2 y3 y4
   unfold worldmintref05_minus.l0
   repeat' first
   | (with_reducible exact ih0 _ _ _ _ _)
   | (with_reducible exact LeO.refl _)
   | (with_reducible exact LeO.none _)
   | (with_reducible refine LeO.ite ?_ ?_)
   | (with_reducible refine LeO.bind ?_ (fun _ => ?_))
   | exact ih0 _ _ _ _ _
   | exact LeO.none _
   | refine LeO.ite ?_ ?_
   | refine LeO.bind ?_ (fun _ => ?_)
theorem worldmintref05_minus.mono : ∀ a0 a1 k, LeO (worldmintref05_minus.f k a0 a1) (worldmintref05_minus.f (k + 1) a0 a1) := by
 intro a0 a1 k
 have ih0 := worldmintref05_minus.mono_l k
 unfold worldmintref05_minus.f
 repeat' first
   | (with_reducible exact ih0 _ _ _ _ _)
   | (with_reducible exact LeO.refl _)
   | (with_reducible exact LeO.none _)
   | (with_reducible refine LeO.ite ?_ ?_)
   | (with_reducible refine LeO.bind ?_ (fun _ => ?_))
   | exact ih0 _ _ _ _ _
   | exact LeO.none _
   | refine LeO.ite ?_ ?_
   | refine LeO.bind ?_ (fun _ => ?_)
set_option maxHeartbeats 8000000 in
set_option maxRecDepth 100000 in
theorem worldmintref05_minus.calls (k : Nat) (A0 : Option Addr) (c0 : Nat) (l0 : List Int) (A1 : Option Addr) (c1 : Nat) (l1 : List Int) (r : List Int) (w : World) (hr0 : Kd.C (Kd.int .i64) w A0 l0.length l0) (hc0 : l0.length ≤ c0) (hr1 : Kd.C (Kd.int .i64) w A1 l1.length l1) (hc1 : l1.length ≤ c1) (h : worldmintref05_minus.f k l0 l1 = some r) :
  Calls Tryz.prog 63 #[.slice A0 l0.length c0, .slice A1 l1.length c1] w fun e w' => ∃ v0_ : Value, e = .returned (v0_) ∧ Kd.R (Kd.int .i64) 3 w' w.heap.size (fun _ => True) v0_ r ∧ Below w.heap.size w w' := by
 have HR0 := am_ hr0
 have HC0 := am_ hc0
 clear hr0 hc0
 have HR1 := am_ hr1
 have HC1 := am_ hc1
 clear hr1 hc1
 have HB := am_ (Below.refl w.heap.size w)
 have H : (worldmintref05_minus.l0 k l0 l1 ([] : List Int) 0 0) = some r := h
 clear h
 have H' := am_ H
 clear H
 go_enter Tryz.func63, Tryz.ntmps63
 go_wp2
 try simp only [Act.put, List.setIfInBounds_toArray, List.set_cons_zero, List.set_cons_succ]
 go_loopg [5, 6, 7] k (fun kq v5 v6 v7 w' => ∃ (x5_1 : List Int) (x6_1 : Int) (x7_1 : Int), v6 = .int .i64 x6_1 ∧ v7 = .int .i64 x7_1 ∧ Aside0 (worldmintref05_minus.l0 kq l0 l1 x5_1 x6_1 x7_1 = some r) ∧ Aside0 (kq ≤ k) ∧ Aside0 (Kd.R (Kd.int .i64) 3 w' w.heap.size (fun _ => True) v5 x5_1) ∧ Aside0 (Below w.heap.size w w'))
 case atStart => exact ⟨(([] : List Int)), (0), (0), zq0, zq0, H', ⟨Nat.le_refl _⟩, ⟨by first | exact Kd.R_nil _ _ _ _ _ | exact Kd.N_nil _ _ _ _ _ | exact Kd.V_nil _ _ _ _ _ | exact Kd.Q_nil _ _ _ _ _ | exact Kd.S_nil _ _ _ _ _⟩, ⟨by repeat (first | (with_reducible first | exact HB.out | apply below_alloc | apply pw_below_drewN | apply below_drew1) | exact HB.out)⟩⟩
 case round =>
  clear H'
  try clear c1
  try clear p2
  obtain ⟨x5_1, x6_1, x7_1, rfl, rfl, HA, HK1, HO_5, HB⟩ := hrel
  cases gk with
  | zero => exact absurd HA.out (by simp [worldmintref05_minus.l0])
  | succ k1 =>
   have H := HA.out
   clear HA
   simp only [worldmintref05_minus.l0] at H
   by_cases c3 : x7_1 < (l0.length : Int)
   ·rw [if_pos c3] at H
    have c3b0 : decide (x7_1 < (l0.length : Int)) = true := decide_eq_true c3
    clear c3
    replace H := Option.bind_eq_some_iff.mp H
    obtain ⟨t149, A40, H⟩ := H
    replace H : ((worldmintref05_at.f l1 x7_1).bind fun t150 => (if (wrap64 ((wrap64 (t149 - t150)) - x6_1)) < 0 then (if x5_1.length < 17592186044416 then (worldmintref05_minus.l0 k1 l0 l1 (x5_1 ++ [wrap64 ((wrap64 ((wrap64 (t149 - t150)) - x6_1)) + 10000)]) 1 (wrap64 (x7_1 + 1))) else (none)) else (if x5_1.length < 17592186044416 then (worldmintref05_minus.l0 k1 l0 l1 (x5_1 ++ [wrap64 ((wrap64 (t149 - t150)) - x6_1)]) 0 (wrap64 (x7_1 + 1))) else (none)))) = some r := H
    have A4 := am_ A40
    clear A40
    replace H := Option.bind_eq_some_iff.mp H
    obtain ⟨t150, A50, H⟩ := H
    replace H : (if (wrap64 ((wrap64 (t149 - t150)) - x6_1)) < 0 then (if x5_1.length < 17592186044416 then (worldmintref05_minus.l0 k1 l0 l1 (x5_1 ++ [wrap64 ((wrap64 ((wrap64 (t149 - t150)) - x6_1)) + 10000)]) 1 (wrap64 (x7_1 + 1))) else (none)) else (if x5_1.length < 17592186044416 then (worldmintref05_minus.l0 k1 l0 l1 (x5_1 ++ [wrap64 ((wrap64 (t149 - t150)) - x6_1)]) 0 (wrap64 (x7_1 + 1))) else (none))) = some r := H
    have A5 := am_ A50
    clear A50
    by_cases c6 : (wrap64 ((wrap64 (t149 - t150)) - x6_1)) < 0
    ·rw [if_pos c6] at H
     have c6b0 : decide ((wrap64 ((wrap64 (t149 - t150)) - x6_1)) < 0) = true := decide_eq_true c6
     clear c6
     by_cases c7 : x5_1.length < 17592186044416
     ·rw [if_pos c7] at H
      have LMc7 := am_ c7
      clear c7
      obtain ⟨y151, hy151⟩ : ∃ y_ : List Int, y_ = (x5_1 ++ [wrap64 ((wrap64 ((wrap64 (t149 - t150)) - x6_1)) + 10000)]) := ⟨_, rfl⟩
      replace H : (worldmintref05_minus.l0 k1 l0 l1 y151 1 (wrap64 (x7_1 + 1))) = some r := by first | (rw [hy151]; with_reducible exact H) | (have H2_ := (Option.bind_some _ _).symm.trans H; rw [hy151]; with_reducible exact H2_) | (have H2_ := (Option.bind_some _ _).symm.trans H; with_reducible exact H2_) | with_reducible exact H | (rw [hy151]; exact H) | exact H
      have Ny151 := am_ hy151
      clear hy151
      have H' := am_ H
      clear H
      go_wp2_with (first | ((with_reducible refine gate_callee (f := 85) rfl ?_); refine goesL_ (some 17) rfl rfl Tryz.func85 (by kernel_rfl) rfl #[.slice A0 l0.length c0, .int .i64 x7_1] rfl zq4 ?_; (with_reducible refine (worldmintref05_at.calls _ _ l0 x7_1 t149 _ ?side1 ?side2 A4.out).mono ?_); (case side1 => exact zq18); (case side2 => exact HC0.out); rintro e w' ⟨rfl, ⟨nd, rfl⟩⟩; refine ⟨_, rfl, ?_⟩) | ((with_reducible refine gate_callee (f := 85) rfl ?_); refine goesL_ (some 20) rfl rfl Tryz.func85 (by kernel_rfl) rfl #[.slice A1 l1.length c1, .int .i64 x7_1] rfl zq4 ?_; (with_reducible refine (worldmintref05_at.calls _ _ l1 x7_1 t150 _ ?side1 ?side2 A5.out).mono ?_); (case side1 => exact zq19); (case side2 => exact HC1.out); rintro e w' ⟨rfl, ⟨nd, rfl⟩⟩; refine ⟨_, rfl, ?_⟩) | ((with_reducible refine gate_builtin (b := .append) (xs := #[.tmp 28, .tmp 30]) rfl ?_); at_builtin; refine Kd.R_append (Kd.int .i64) (w0 := w) w.heap.size rfl (.tmp 28) (.tmp 30) 22 3 (.int .i64 0) 8 rfl Tryz.underlying22 info3 rfl (by decide) (by omega) u5 x5_1 (wrap64 ((wrap64 ((wrap64 (t149 - t150)) - x6_1)) + 10000)) [.int .i64 (wrap64 ((wrap64 ((wrap64 (t149 - t150)) - x6_1)) + 10000))] (fun _ => True) (fun _ => False) rfl rfl ?aP (fun _ hk => hk.elim) ?aF ?aO ?aB ?aS ?aL ?_; (case aP => exact rfl); (case aB => exact zq20); (case aF => exact (fun _ _ => trivial)); (case aO => exact (zq12 HO_5.out)); (case aS => exact zq21); (case aL => have := LMc7.out; omega); intro v152 w8 ho hb hg hat; rw [← Ny151.out] at ho; replace HB := am_ (hb); have HO153 := am_ (ho); clear HO_5; clear ho hb hg hat))
      go_roundg k1
      case measure => have := HK1.out; omega
      case rel => exact ⟨(y151), (1), (wrap64 (x7_1 + 1)), zq0, zq0, H', ⟨by have := HK1.out; omega⟩, ⟨by (with_reducible repeat (first | apply Kd.R_alloc | apply Kd.R_drewN | apply Kd.R_drew)); exact HO153.out⟩, ⟨by repeat (first | (with_reducible first | exact HB.out | apply below_alloc | apply pw_below_drewN | apply below_drew1) | exact HB.out)⟩⟩
     ·rw [if_neg c7] at H
      exact absurd H (by simp)
    ·rw [if_neg c6] at H
     have c6b0 : decide ((wrap64 ((wrap64 (t149 - t150)) - x6_1)) < 0) = false := decide_eq_false c6
     clear c6
     by_cases c9 : x5_1.length < 17592186044416
     ·rw [if_pos c9] at H
      have LMc9 := am_ c9
      clear c9
      obtain ⟨y154, hy154⟩ : ∃ y_ : List Int, y_ = (x5_1 ++ [wrap64 ((wrap64 (t149 - t150)) - x6_1)]) := ⟨_, rfl⟩
      replace H : (worldmintref05_minus.l0 k1 l0 l1 y154 0 (wrap64 (x7_1 + 1))) = some r := by first | (rw [hy154]; with_reducible exact H) | (have H2_ := (Option.bind_some _ _).symm.trans H; rw [hy154]; with_reducible exact H2_) | (have H2_ := (Option.bind_some _ _).symm.trans H; with_reducible exact H2_) | with_reducible exact H | (rw [hy154]; exact H) | exact H
      have Ny154 := am_ hy154
      clear hy154
      have H' := am_ H
      clear H
      go_wp2_with (first | ((with_reducible refine gate_callee (f := 85) rfl ?_); refine goesL_ (some 17) rfl rfl Tryz.func85 (by kernel_rfl) rfl #[.slice A0 l0.length c0, .int .i64 x7_1] rfl zq4 ?_; (with_reducible refine (worldmintref05_at.calls _ _ l0 x7_1 t149 _ ?side1 ?side2 A4.out).mono ?_); (case side1 => exact zq18); (case side2 => exact HC0.out); rintro e w' ⟨rfl, ⟨nd, rfl⟩⟩; refine ⟨_, rfl, ?_⟩) | ((with_reducible refine gate_callee (f := 85) rfl ?_); refine goesL_ (some 20) rfl rfl Tryz.func85 (by kernel_rfl) rfl #[.slice A1 l1.length c1, .int .i64 x7_1] rfl zq4 ?_; (with_reducible refine (worldmintref05_at.calls _ _ l1 x7_1 t150 _ ?side1 ?side2 A5.out).mono ?_); (case side1 => exact zq19); (case side2 => exact HC1.out); rintro e w' ⟨rfl, ⟨nd, rfl⟩⟩; refine ⟨_, rfl, ?_⟩) | ((with_reducible refine gate_builtin (b := .append) (xs := #[.tmp 28, .tmp 30]) rfl ?_); at_builtin; refine Kd.R_append (Kd.int .i64) (w0 := w) w.heap.size rfl (.tmp 28) (.tmp 30) 22 3 (.int .i64 0) 8 rfl Tryz.underlying22 info3 rfl (by decide) (by omega) u5 x5_1 (wrap64 ((wrap64 (t149 - t150)) - x6_1)) [.int .i64 (wrap64 ((wrap64 (t149 - t150)) - x6_1))] (fun _ => True) (fun _ => False) rfl rfl ?aP (fun _ hk => hk.elim) ?aF ?aO ?aB ?aS ?aL ?_; (case aP => exact rfl); (case aB => exact zq20); (case aF => exact (fun _ _ => trivial)); (case aO => exact (zq12 HO_5.out)); (case aS => exact zq21); (case aL => have := LMc9.out; omega); intro v155 w10 ho hb hg hat; rw [← Ny154.out] at ho; replace HB := am_ (hb); have HO156 := am_ (ho); clear HO_5; clear ho hb hg hat))
      go_roundg k1
      case measure => have := HK1.out; omega
      case rel => exact ⟨(y154), (0), (wrap64 (x7_1 + 1)), zq0, zq0, H', ⟨by have := HK1.out; omega⟩, ⟨by (with_reducible repeat (first | apply Kd.R_alloc | apply Kd.R_drewN | apply Kd.R_drew)); exact HO156.out⟩, ⟨by repeat (first | (with_reducible first | exact HB.out | apply below_alloc | apply pw_below_drewN | apply below_drew1) | exact HB.out)⟩⟩
     ·rw [if_neg c9] at H
      exact absurd H (by simp)
   ·rw [if_neg c3] at H
    have c3b0 : decide (x7_1 < (l0.length : Int)) = false := decide_eq_false c3
    clear c3
    obtain rfl := Option.some.inj H
    go_wp2
    go_ret
    exact ⟨_, by first | rfl | (simp [errW_none, errW_some] <;> rfl) | (simp [*, errW_none, errW_some] <;> rfl), by (with_reducible repeat (first | apply Kd.R_alloc | apply Kd.R_drewN | apply Kd.R_drew)); exact HO_5.out, by repeat (first | (with_reducible first | exact HB.out | apply below_alloc | apply pw_below_drewN | apply below_drew1) | exact HB.out)⟩

/-! ### worldmintref05_Add: function 29 -/
def worldmintref05_Add.f (k : Nat) (a0_0 : Bool) (l0_1 : List Int) (a1_0 : Bool) (l1_1 : List Int) : Option (Bool × List Int) := if (a0_0 == a1_0) = true then ((worldmintref05_plus.f k l0_1 l1_1).bind fun t160 => ((worldmintref05_normal.f k a0_0 t160).bind fun bt163 => (some (bt163.1, bt163.2)))) else ((worldmintref05_compared.f k l0_1 l1_1).bind fun t167 => (if t167 < 0 then ((worldmintref05_minus.f k l1_1 l0_1).bind fun t168 => ((worldmintref05_normal.f k a1_0 t168).bind fun bt171 => (some (bt171.1, bt171.2)))) else ((worldmintref05_minus.f k l0_1 l1_1).bind fun t175 => ((worldmintref05_normal.f k a0_0 t175).bind fun bt178 => (some (bt178.1, bt178.2))))))
theorem worldmintref05_Add.mono : ∀ a0 a1 a2 a3 k, LeO (worldmintref05_Add.f k a0 a1 a2 a3) (worldmintref05_Add.f (k + 1) a0 a1 a2 a3) := by
 intro a0 a1 a2 a3 k
 unfold worldmintref05_Add.f
 repeat' first
   | (with_reducible exact worldmintref05_compared.mono _ _ _)
   | (with_reducible exact worldmintref05_minus.mono _ _ _)
   | (with_reducible exact worldmintref05_normal.mono _ _ _)
   | (with_reducible exact worldmintref05_plus.mono _ _ _)
   | (with_reducible exact LeO.refl _)
   | (with_reducible exact LeO.none _)
   | (with_reducible refine LeO.ite ?_ ?_)
   | (with_reducible refine LeO.bind ?_ (fun _ => ?_))
   | exact worldmintref05_compared.mono _ _ _
   | exact worldmintref05_minus.mono _ _ _
   | exact worldmintref05_normal.mono _ _ _
   | exact worldmintref05_plus.mono _ _ _
   | exact LeO.none _
   | refine LeO.ite ?_ ?_
   | refine LeO.bind ?_ (fun _ => ?_)
def worldmintref05_Add.T2 : Bool × List (List Nat × List Nat) := (true, [([], []), ([0], [0]), ([], []), ([2], [2]), ([], []), ([4], [4]), ([3, 5], [3, 5]), ([1, 6, 6], [1, 6]), ([7, 7, 0, 1, 2, 3, 4, 5, 6, 7], [7])])
def worldmintref05_Add.B2 : List Nat := [0, 1, 0, 4, 0, 16, 60, 127, 255]
theorem worldmintref05_Add.tab2 : rtab .any (opsOf Tryz.f29 2) = worldmintref05_Add.T2 := by kernel_rfl
theorem worldmintref05_Add.bits2 : waitsOk worldmintref05_Add.T2.2 worldmintref05_Add.B2 = true := by kernel_rfl
def worldmintref05_Add.T4 : Bool × List (List Nat × List Nat) := (true, [([], []), ([0], [0]), ([], []), ([2], [2]), ([], []), ([4], [4]), ([3, 5], [3, 5]), ([1, 6, 6], [1, 6]), ([7, 7, 0, 1, 2, 3, 4, 5, 6, 7], [7])])
def worldmintref05_Add.B4 : List Nat := [0, 1, 0, 4, 0, 16, 60, 127, 255]
theorem worldmintref05_Add.tab4 : rtab .any (opsOf Tryz.f29 4) = worldmintref05_Add.T4 := by kernel_rfl
theorem worldmintref05_Add.bits4 : waitsOk worldmintref05_Add.T4.2 worldmintref05_Add.B4 = true := by kernel_rfl
def worldmintref05_Add.T5 : Bool × List (List Nat × List Nat) := (true, [([], []), ([0], [0]), ([], []), ([2], [2]), ([], []), ([4], [4]), ([3, 5], [3, 5]), ([1, 6, 6], [1, 6]), ([7, 7, 0, 1, 2, 3, 4, 5, 6, 7], [7])])
def worldmintref05_Add.B5 : List Nat := [0, 1, 0, 4, 0, 16, 60, 127, 255]
theorem worldmintref05_Add.tab5 : rtab .any (opsOf Tryz.f29 5) = worldmintref05_Add.T5 := by kernel_rfl
theorem worldmintref05_Add.bits5 : waitsOk worldmintref05_Add.T5.2 worldmintref05_Add.B5 = true := by kernel_rfl
set_option maxHeartbeats 8000000 in
set_option maxRecDepth 100000 in
theorem worldmintref05_Add.calls (k : Nat) (a0_0 : Bool) (A0_1 : Option Addr) (c0_1 : Nat) (l0_1 : List Int) (a1_0 : Bool) (A1_1 : Option Addr) (c1_1 : Nat) (l1_1 : List Int) (r1 : Bool) (r2 : List Int) (w : World) (hr0_1 : Kd.C (Kd.int .i64) w A0_1 l0_1.length l0_1) (hc0_1 : l0_1.length ≤ c0_1) (hr1_1 : Kd.C (Kd.int .i64) w A1_1 l1_1.length l1_1) (hc1_1 : l1_1.length ≤ c1_1) (h : worldmintref05_Add.f k a0_0 l0_1 a1_0 l1_1 = some (r1, r2)) :
  Calls Tryz.prog 29 #[.agg #[.bool a0_0, .slice A0_1 l0_1.length c0_1], .agg #[.bool a1_0, .slice A1_1 l1_1.length c1_1]] w fun e w' => ∃ v1_ : Value, e = .returned (.agg #[.bool r1, v1_]) ∧ Kd.V (Kd.int .i64) 3 w' w.heap.size (fun k_ => (w.heap.size ≤ k_)) v1_ r2 ∧ Below w.heap.size w w' := by
 have hu25 := Tryz.underlying25
 have HR0_1 := am_ hr0_1
 have HC0_1 := am_ hc0_1
 clear hr0_1 hc0_1
 have HR1_1 := am_ hr1_1
 have HC1_1 := am_ hc1_1
 clear hr1_1 hc1_1
 have HB := am_ (Below.refl w.heap.size w)
 have H : (if (a0_0 == a1_0) = true then ((worldmintref05_plus.f k l0_1 l1_1).bind fun t160 => ((worldmintref05_normal.f k a0_0 t160).bind fun bt163 => (some (bt163.1, bt163.2)))) else ((worldmintref05_compared.f k l0_1 l1_1).bind fun t167 => (if t167 < 0 then ((worldmintref05_minus.f k l1_1 l0_1).bind fun t168 => ((worldmintref05_normal.f k a1_0 t168).bind fun bt171 => (some (bt171.1, bt171.2)))) else ((worldmintref05_minus.f k l0_1 l1_1).bind fun t175 => ((worldmintref05_normal.f k a0_0 t175).bind fun bt178 => (some (bt178.1, bt178.2))))))) = some (r1, r2) := h
 clear h
 by_cases c3 : (a0_0 == a1_0) = true
 ·rw [if_pos c3] at H
  have c3b0 : (a0_0 == a1_0) = true := c3
  (try (have c3b1 : decide (a0_0 = a1_0) = true := by simpa using c3))
  (try (have c3b2 : (a0_0 == a1_0) = true := by simpa using c3))
  clear c3
  replace H := Option.bind_eq_some_iff.mp H
  obtain ⟨t160, A40, H⟩ := H
  replace H : ((worldmintref05_normal.f k a0_0 t160).bind fun bt163 => (some (bt163.1, bt163.2))) = some (r1, r2) := H
  have A4 := am_ A40
  clear A40
  replace H := Option.bind_eq_some_iff.mp H
  obtain ⟨⟨t163, t164⟩, A50, H⟩ := H
  replace H : (some (t163, t164)) = some (r1, r2) := H
  have A5 := am_ A50
  clear A50
  simp only [Option.some.injEq, Prod.mk.injEq] at H
  obtain ⟨rfl, rfl⟩ := H
  go_enter Tryz.func29, Tryz.ntmps29
  try go_wp2_with (first | ((with_reducible refine gate_dst (N := 2) rfl ?_); refine box_event ?hg (N := 2) ?hd (cs := #[.bool a0_0, .slice A0_1 l0_1.length c0_1]) (t := 25) ?hr ?_; (case hd => rfl); (case hg => rfl); (case hr => exact zq1); intro gb157 hg w6 hbox hb; have n0_ := am_ (below_step zq2 hb); have n1_ := am_ (hbox); have n2_ := am_ ((by rw [hg]; exact (below_size zq2) : w.heap.size ≤ gb157)); clear HB; have HB := n0_; have BK157 := n1_; have GE157 := n2_; clear n0_ n1_ n2_; clear hb hbox hg) | ((with_reducible refine gate_dst (N := 3) rfl ?_); refine box_event ?hg (N := 3) ?hd (cs := #[.bool a1_0, .slice A1_1 l1_1.length c1_1]) (t := 25) ?hr ?_; (case hd => rfl); (case hg => rfl); (case hr => exact zq1); intro gb158 hg w7 hbox hb; have n0_ := am_ (blk_below (g := gb157) (o := .cells #[.bool a0_0, .slice A0_1 l0_1.length c0_1] 25 (0, 0)) (zq9 BK157.out) hb); have n1_ := am_ (below_step zq22 hb); have n2_ := am_ (hbox); have n3_ := am_ ((by rw [hg]; exact (below_size zq22) : w.heap.size ≤ gb158)); have n4_ := am_ ((by rw [hg]; exact Nat.ne_of_lt (blk_lt (g := gb157) (zq9 BK157.out)) : gb157 ≠ gb158)); have n5_ := am_ ((by rw [hg]; exact Nat.ne_of_gt (blk_lt (g := gb157) (zq9 BK157.out)) : gb158 ≠ gb157)); clear BK157 HB; have BK157 := n0_; have HB := n1_; have BK158 := n2_; have GE158 := n3_; have NB157_158 := n4_; have NB158_157 := n5_; clear n0_ n1_ n2_ n3_ n4_ n5_; clear hb hbox hg) | ((with_reducible refine gate_dst (N := 4) rfl ?_); refine box_event ?hg (N := 4) ?hd (cs := #[.bool false, .slice none 0 0]) (t := 25) ?hr ?_; (case hd => rfl); (case hg => rfl); (case hr => exact zq1); intro gb159 hg w8 hbox hb; have n0_ := am_ (blk_below (g := gb157) (o := .cells #[.bool a0_0, .slice A0_1 l0_1.length c0_1] 25 (0, 0)) (zq9 BK157.out) hb); have n1_ := am_ (blk_below (g := gb158) (o := .cells #[.bool a1_0, .slice A1_1 l1_1.length c1_1] 25 (0, 0)) (zq9 BK158.out) hb); have n2_ := am_ (below_step zq23 hb); have n3_ := am_ (hbox); have n4_ := am_ ((by rw [hg]; exact (below_size zq23) : w.heap.size ≤ gb159)); have n5_ := am_ ((by rw [hg]; exact Nat.ne_of_lt (blk_lt (g := gb157) (zq9 BK157.out)) : gb157 ≠ gb159)); have n6_ := am_ ((by rw [hg]; exact Nat.ne_of_gt (blk_lt (g := gb157) (zq9 BK157.out)) : gb159 ≠ gb157)); have n7_ := am_ ((by rw [hg]; exact Nat.ne_of_lt (blk_lt (g := gb158) (zq9 BK158.out)) : gb158 ≠ gb159)); have n8_ := am_ ((by rw [hg]; exact Nat.ne_of_gt (blk_lt (g := gb158) (zq9 BK158.out)) : gb159 ≠ gb158)); clear BK157 BK158 HB; have BK157 := n0_; have BK158 := n1_; have HB := n2_; have BK159 := n3_; have GE159 := n4_; have NB157_159 := n5_; have NB159_157 := n6_; have NB158_159 := n7_; have NB159_158 := n8_; clear n0_ n1_ n2_ n3_ n4_ n5_ n6_ n7_ n8_; clear hb hbox hg; have hnb9 := NB157_158.out; have hnc9 := NB158_157.out; have hnb10 := NB157_159.out; have hnc10 := NB159_157.out; have hcz11_0 : w8.cell? ⟨gb157, 0, none⟩ = some (.bool a0_0) := (blk_cell BK157.out 0).trans rfl; have hcz11_1 : w8.cell? ⟨gb157, 1, none⟩ = some (.slice A0_1 l0_1.length c0_1) := (blk_cell BK157.out 1).trans rfl; have hfz11_0 := blk_frozen BK157.out 0; have hfz11_1 := blk_frozen BK157.out 1; have hnb12 := NB158_159.out; have hnc12 := NB159_158.out; have hcz13_0 : w8.cell? ⟨gb158, 0, none⟩ = some (.bool a1_0) := (blk_cell BK158.out 0).trans rfl; have hcz13_1 : w8.cell? ⟨gb158, 1, none⟩ = some (.slice A1_1 l1_1.length c1_1) := (blk_cell BK158.out 1).trans rfl; have hfz13_0 := blk_frozen BK158.out 0; have hfz13_1 := blk_frozen BK158.out 1))
  replace BK157 := am_ (blk_drew BK157.out); replace BK158 := am_ (blk_drew BK158.out); replace BK159 := am_ (blk_drew BK159.out); replace HB := am_ (below_drew1 HB.out)
  refine start_ (n := 9) (S := fun w' => w'.cell? ⟨gb157, 0, none⟩ = some (.bool a0_0) ∧ w'.cell? ⟨gb157, 1, none⟩ = some (.slice A0_1 l0_1.length c0_1) ∧ w'.cell? ⟨gb158, 0, none⟩ = some (.bool a1_0) ∧ w'.cell? ⟨gb158, 1, none⟩ = some (.slice A1_1 l1_1.length c1_1)) (ds := []) #[false, false, false, false, false, false, false, false, false] (by kernel_rfl) rfl rfl ⟨(blk_cell BK157.out 0).trans rfl, (blk_cell BK157.out 1).trans rfl, (blk_cell BK158.out 0).trans rfl, (blk_cell BK158.out 1).trans rfl⟩ (fun hHeld => ?_); refine with_tabW worldmintref05_Add.tab2 worldmintref05_Add.bits2 (fun HT_ HW_ => ?_)
  generalize w8.drew = w14 at BK157 BK158 BK159 HB hHeld ⊢
  refine pure_ (i := 0) (N := some 10) (v := ?_) (a' := ?_) #[true, false, false, false, false, false, false, false, false] rfl rfl (any_of HT_.out (by kernel_rfl)) (fun _ _ _ h => h) (Or.inl ⟨by rfl, ?_⟩) ?_ ?_
  rotate_left
  ·intro w'
   go_simp
   with_reducible rfl
  rotate_left
  ·exact za_
  refine pure_ (i := 2) (N := some 12) (v := ?_) (a' := ?_) #[true, false, true, false, false, false, false, false, false] rfl rfl (any_of HT_.out (by kernel_rfl)) (fun _ _ _ h => h) (Or.inl ⟨by rfl, ?_⟩) ?_ ?_
  rotate_left
  ·intro w'
   go_simp
   with_reducible rfl
  rotate_left
  ·exact za_
  refine pure_ (i := 4) (N := some 14) (v := ?_) (a' := ?_) #[true, false, true, false, true, false, false, false, false] rfl rfl (any_of HT_.out (by kernel_rfl)) (fun _ _ _ h => h) (Or.inl ⟨by rfl, ?_⟩) ?_ ?_
  rotate_left
  ·intro w'
   go_simp
   with_reducible rfl
  rotate_left
  ·exact za_
  refine take_ (i := 1) (N := some 11) (v := ?_) (a' := ?_) #[true, true, true, false, true, false, false, false, false] rfl rfl (take_ofW HT_.out HW_.out (by kernel_rfl)) (fun _ _ _ h => h) (Or.inl ⟨by rfl, ?_⟩) hHeld ?_ ?_
  rotate_left
  ·rintro w' ⟨s0, s1, s2, s3⟩
   go_simp
   with_reducible rfl
  rotate_left
  ·exact za_
  refine take_ (i := 3) (N := some 13) (v := ?_) (a' := ?_) #[true, true, true, true, true, false, false, false, false] rfl rfl (take_ofW HT_.out HW_.out (by kernel_rfl)) (fun _ _ _ h => h) (Or.inl ⟨by rfl, ?_⟩) hHeld ?_ ?_
  rotate_left
  ·rintro w' ⟨s0, s1, s2, s3⟩
   go_simp
   with_reducible rfl
  rotate_left
  ·exact za_
  refine take_ (i := 5) (N := some 15) (v := ?_) (a' := ?_) #[true, true, true, true, true, true, false, false, false] rfl rfl (take_ofW HT_.out HW_.out (by kernel_rfl)) (fun _ _ _ h => h) (Or.inl ⟨by rfl, ?_⟩) hHeld ?_ ?_
  rotate_left
  ·rintro w' ⟨s0, s1, s2, s3⟩
   go_simp
   with_reducible rfl
  rotate_left
  ·exact za_
  refine one_ (i := 6) (N := some 16) #[true, true, true, true, true, true, true, false, false] rfl rfl (one_of HT_.out (by kernel_rfl)) (by decide) (fun K hK => ?_)
  refine goes_ Tryz.func61 (by kernel_rfl) rfl #[.slice A0_1 l0_1.length c0_1, .slice A1_1 l1_1.length c1_1] (by rfl) rfl rfl zq4 ?_
  with_reducible refine (worldmintref05_plus.calls k _ _ l0_1 _ _ l1_1 t160 _ ?side1 ?side2 ?side3 ?side4 A4.out).mono ?_
  (case side1 => exact zq24)
  (case side2 => exact HC0_1.out)
  (case side3 => exact zq25)
  (case side4 => exact HC1_1.out)
  rintro e w15 ⟨v161, rfl, ho0, hb⟩
  refine ⟨_, rfl, ?_⟩
  have HO162 := am_ (Kd.R_lower (Kd.R_newM (M := fun k_ => (w.heap.size ≤ k_)) ho0 (below_size zq26) (fun k_ h_ => h_)) (below_size zq26)); replace BK157 := am_ (blk_below (g := gb157) (o := .cells #[.bool a0_0, .slice A0_1 l0_1.length c0_1] 25 (0, 0)) (zq9 BK157.out) hb); replace BK158 := am_ (blk_below (g := gb158) (o := .cells #[.bool a1_0, .slice A1_1 l1_1.length c1_1] 25 (0, 0)) (zq9 BK158.out) hb); replace BK159 := am_ (blk_below (g := gb159) (o := .cells #[.bool false, .slice none 0 0] 25 (0, 0)) (zq9 BK159.out) hb); replace HB := am_ (below_step zq26 hb); (try clear hb); (try clear ho0)
  obtain ⟨Ao16, co16, eo16⟩ := Kd.R_slice HO162.out
  (first | subst eo16 | (injection eo16 with f1_ f2_ f3_; have f4_ := f1_.symm; have f5_ := f3_.symm; clear f1_ f2_ f3_; subst f4_; subst f5_))
  refine hK.out _ _ ⟨(blk_cell BK157.out 0).trans rfl, (blk_cell BK157.out 1).trans rfl, (blk_cell BK158.out 0).trans rfl, (blk_cell BK158.out 1).trans rfl⟩ (fun hHeld => ?_)
  clear hK K
  refine norm_ (a' := ?_) ?_ ?_
  rotate_left
  ·show Act.put _ (some 16) _ = _
   exact za_
  refine one_ (i := 7) (N := some 17) #[true, true, true, true, true, true, true, true, false] rfl rfl (one_of HT_.out (by kernel_rfl)) (by decide) (fun K hK => ?_)
  refine goes_ Tryz.func54 (by kernel_rfl) rfl #[.bool a0_0, .slice Ao16 t160.length co16] (by rfl) rfl rfl zq4 ?_
  with_reducible refine (worldmintref05_normal.calls k a0_0 (fun k_ => some k_ = (.slice Ao16 t160.length co16 : Value).ownBlock) _ _ t160 t163 t164 _ ?side1 A5.out).mono ?_
  (case side1 => exact Kd.R_V (Kd.R_tight rfl (Kd.R_types (Kd.R_types (Kd.R_types (HO162.out) BK157.out (by decide)) BK158.out (by decide)) BK159.out (by decide))))
  rintro e w17 ⟨v165, rfl, ho0, hb⟩
  refine ⟨_, rfl, ?_⟩
  have n0_ := am_ (Kd.R_below (zq7 HO162.out) hb); have n1_ := am_ (Kd.V_lower (Kd.V_mono (ok' := fun k_ => (w.heap.size ≤ k_) ∧ k_ ≠ gb157 ∧ k_ ≠ gb158 ∧ k_ ≠ gb159) ho0 (fun k_ hk_ => ⟨Or.elim hk_ (fun hs_ => ((Kd.R_types (Kd.R_types (Kd.R_types (HO162.out) BK157.out (by decide)) BK158.out (by decide)) BK159.out (by decide)).1 k_ hs_.symm).1.1.1.1) (fun hn_ => (Nat.le_trans (below_size zq26) hn_)), Or.elim hk_ (fun hs_ => ((Kd.R_types (Kd.R_types (Kd.R_types (HO162.out) BK157.out (by decide)) BK158.out (by decide)) BK159.out (by decide)).1 k_ hs_.symm).1.1.2) (fun hn_ => (Kd.freshB (g := gb157) (o := .cells #[.bool a0_0, .slice A0_1 l0_1.length c0_1] 25 (0, 0)) (zq9 BK157.out) k_ hn_)), Or.elim hk_ (fun hs_ => ((Kd.R_types (Kd.R_types (Kd.R_types (HO162.out) BK157.out (by decide)) BK158.out (by decide)) BK159.out (by decide)).1 k_ hs_.symm).1.2) (fun hn_ => (Kd.freshB (g := gb158) (o := .cells #[.bool a1_0, .slice A1_1 l1_1.length c1_1] 25 (0, 0)) (zq9 BK158.out) k_ hn_)), Or.elim hk_ (fun hs_ => ((Kd.R_types (Kd.R_types (Kd.R_types (HO162.out) BK157.out (by decide)) BK158.out (by decide)) BK159.out (by decide)).1 k_ hs_.symm).2) (fun hn_ => (Kd.freshB (g := gb159) (o := .cells #[.bool false, .slice none 0 0] 25 (0, 0)) (zq9 BK159.out) k_ hn_))⟩)) (below_size zq26)); have n2_ := am_ (blk_below (g := gb157) (o := .cells #[.bool a0_0, .slice A0_1 l0_1.length c0_1] 25 (0, 0)) (zq9 BK157.out) hb); have n3_ := am_ (blk_below (g := gb158) (o := .cells #[.bool a1_0, .slice A1_1 l1_1.length c1_1] 25 (0, 0)) (zq9 BK158.out) hb); have n4_ := am_ (blk_below (g := gb159) (o := .cells #[.bool false, .slice none 0 0] 25 (0, 0)) (zq9 BK159.out) hb); have n5_ := am_ (below_step zq26 hb); clear HO162 BK157 BK158 BK159 HB; have HO162 := n0_; have HO166 := n1_; have BK157 := n2_; have BK158 := n3_; have BK159 := n4_; have HB := n5_; clear n0_ n1_ n2_ n3_ n4_ n5_; (try clear hb); (try clear ho0)
  obtain ⟨Ao19, co19, eo19⟩ := Kd.V_slice HO166.out
  (first | subst eo19 | (injection eo19 with f1_ f2_ f3_; have f4_ := f1_.symm; have f5_ := f3_.symm; clear f1_ f2_ f3_; subst f4_; subst f5_))
  refine hK.out _ _ ⟨(blk_cell BK157.out 0).trans rfl, (blk_cell BK157.out 1).trans rfl, (blk_cell BK158.out 0).trans rfl, (blk_cell BK158.out 1).trans rfl⟩ (fun hHeld => ?_)
  clear hK K
  refine norm_ (a' := ?_) ?_ ?_
  rotate_left
  ·show Act.put _ (some 17) _ = _
   exact za_
  refine one_ (i := 8) (N := none) #[true, true, true, true, true, true, true, true, true] rfl rfl (one_of HT_.out (by kernel_rfl)) (by decide) (fun K hK => ?_)
  have hs18 : w17.cell? ⟨gb159, 0, none⟩ = some (.bool false) := (blk_cell BK159.out 0).trans rfl
  have hfs18 := blk_frozen BK159.out 0
  have hns18_0 := NB157_159.out
  have hns18_1 := NB158_159.out
  have hms18_0 := NB159_157.out
  have hms18_1 := NB159_158.out
  have hs20 : w17.cell? ⟨gb159, 1, none⟩ = some (.slice none 0 0) := (blk_cell BK159.out 1).trans rfl
  have hfs20 := blk_frozen BK159.out 1
  have hns20_0 := NB157_159.out
  have hns20_1 := NB158_159.out
  have hms20_0 := NB159_157.out
  have hms20_1 := NB159_158.out
  refine skip_ (w1 := ?_) (by rfl) rfl ?_ ?_
  rotate_left
  ·go_simp
   rfl
  refine hK.out _ _ ⟨((cell_far (p := ⟨gb159, _, none⟩) NB157_159.out _).trans (((cell_far (p := ⟨gb159, _, none⟩) NB157_159.out _).trans (hHeld.1)))), ((cell_far (p := ⟨gb159, _, none⟩) NB157_159.out _).trans (((cell_far (p := ⟨gb159, _, none⟩) NB157_159.out _).trans (hHeld.2.1)))), ((cell_far (p := ⟨gb159, _, none⟩) NB158_159.out _).trans (((cell_far (p := ⟨gb159, _, none⟩) NB158_159.out _).trans (hHeld.2.2.1)))), ((cell_far (p := ⟨gb159, _, none⟩) NB158_159.out _).trans (((cell_far (p := ⟨gb159, _, none⟩) NB158_159.out _).trans (hHeld.2.2.2))))⟩ (fun hHeld => ?_)
  clear hK K
  refine done_ (done_of HT_.out (by kernel_rfl)) ?_
  try go_wp2
  refine bodyPost_ret (results_cell_row rfl _ _ gb159 25 #[.bool t163, .slice Ao19 t164.length co19] (0, 0) _ rfl (by (with_reducible repeat (first | refine blk_drewN ?_ _ | refine blk_drew ?_ | refine blk_alloc ?_ _)); refine blk_put (cs := #[.bool t163, .slice none 0 0]) ?_ 1 _ rfl; (with_reducible repeat (first | refine blk_drewN ?_ _ | refine blk_drew ?_ | refine blk_alloc ?_ _)); refine blk_put (cs := #[.bool false, .slice none 0 0]) ?_ 0 _ rfl; (with_reducible repeat (first | refine blk_drewN ?_ _ | refine blk_drew ?_ | refine blk_alloc ?_ _)); exact BK159.out) Tryz.underlying25 rfl (by kernel_rfl)) rfl ?_
  exact ⟨_, by first | rfl | (simp [errW_none, errW_some] <;> rfl) | (simp [*, errW_none, errW_some] <;> rfl), by (with_reducible repeat (first | apply Kd.V_alloc | apply Kd.V_drewN | apply Kd.V_drew)); exact Kd.V_mono (Kd.V_far (p := ⟨gb159, 1, none⟩) (Kd.V_far (p := ⟨gb159, 0, none⟩) (Kd.V_mono HO166.out (fun k_ hk => (⟨hk, hk.2.2.2⟩ : _ ∧ k_ ≠ gb159))) (fun _ hk => hk.2) (.bool t163)) (fun _ hk => hk.2) (.slice Ao19 t164.length co19)) (fun _ hk => hk.1.1), by repeat (first | (with_reducible first | exact HB.out | apply below_alloc | apply pw_below_drewN | apply below_drew1 | refine below_set ?_ GE157.out | refine below_set ?_ GE158.out | refine below_set ?_ GE159.out) | exact HB.out)⟩
 ·rw [if_neg c3] at H
  have c3b0 : (a0_0 == a1_0) = false := by simpa using c3
  (try (have c3b1 : decide (a0_0 = a1_0) = false := by simpa using c3))
  (try (have c3b2 : (a0_0 == a1_0) = false := by simpa using c3))
  (try (have c3b3 : ¬ (a0_0 = a1_0) := by simpa using c3))
  clear c3
  replace H := Option.bind_eq_some_iff.mp H
  obtain ⟨t167, A210, H⟩ := H
  replace H : (if t167 < 0 then ((worldmintref05_minus.f k l1_1 l0_1).bind fun t168 => ((worldmintref05_normal.f k a1_0 t168).bind fun bt171 => (some (bt171.1, bt171.2)))) else ((worldmintref05_minus.f k l0_1 l1_1).bind fun t175 => ((worldmintref05_normal.f k a0_0 t175).bind fun bt178 => (some (bt178.1, bt178.2))))) = some (r1, r2) := H
  have A21 := am_ A210
  clear A210
  by_cases c22 : t167 < 0
  ·rw [if_pos c22] at H
   have c22b0 : decide (t167 < 0) = true := decide_eq_true c22
   clear c22
   replace H := Option.bind_eq_some_iff.mp H
   obtain ⟨t168, A230, H⟩ := H
   replace H : ((worldmintref05_normal.f k a1_0 t168).bind fun bt171 => (some (bt171.1, bt171.2))) = some (r1, r2) := H
   have A23 := am_ A230
   clear A230
   replace H := Option.bind_eq_some_iff.mp H
   obtain ⟨⟨t171, t172⟩, A240, H⟩ := H
   replace H : (some (t171, t172)) = some (r1, r2) := H
   have A24 := am_ A240
   clear A240
   simp only [Option.some.injEq, Prod.mk.injEq] at H
   obtain ⟨rfl, rfl⟩ := H
   go_enter Tryz.func29, Tryz.ntmps29
   try go_wp2_with (first | ((with_reducible refine gate_dst (N := 2) rfl ?_); refine box_event ?hg (N := 2) ?hd (cs := #[.bool a0_0, .slice A0_1 l0_1.length c0_1]) (t := 25) ?hr ?_; (case hd => rfl); (case hg => rfl); (case hr => exact zq1); intro gb157 hg w25 hbox hb; have n0_ := am_ (below_step zq2 hb); have n1_ := am_ (hbox); have n2_ := am_ ((by rw [hg]; exact (below_size zq2) : w.heap.size ≤ gb157)); clear HB; have HB := n0_; have BK157 := n1_; have GE157 := n2_; clear n0_ n1_ n2_; clear hb hbox hg) | ((with_reducible refine gate_dst (N := 3) rfl ?_); refine box_event ?hg (N := 3) ?hd (cs := #[.bool a1_0, .slice A1_1 l1_1.length c1_1]) (t := 25) ?hr ?_; (case hd => rfl); (case hg => rfl); (case hr => exact zq1); intro gb158 hg w26 hbox hb; have n0_ := am_ (blk_below (g := gb157) (o := .cells #[.bool a0_0, .slice A0_1 l0_1.length c0_1] 25 (0, 0)) (zq9 BK157.out) hb); have n1_ := am_ (below_step zq22 hb); have n2_ := am_ (hbox); have n3_ := am_ ((by rw [hg]; exact (below_size zq22) : w.heap.size ≤ gb158)); have n4_ := am_ ((by rw [hg]; exact Nat.ne_of_lt (blk_lt (g := gb157) (zq9 BK157.out)) : gb157 ≠ gb158)); have n5_ := am_ ((by rw [hg]; exact Nat.ne_of_gt (blk_lt (g := gb157) (zq9 BK157.out)) : gb158 ≠ gb157)); clear BK157 HB; have BK157 := n0_; have HB := n1_; have BK158 := n2_; have GE158 := n3_; have NB157_158 := n4_; have NB158_157 := n5_; clear n0_ n1_ n2_ n3_ n4_ n5_; clear hb hbox hg) | ((with_reducible refine gate_dst (N := 4) rfl ?_); refine box_event ?hg (N := 4) ?hd (cs := #[.bool false, .slice none 0 0]) (t := 25) ?hr ?_; (case hd => rfl); (case hg => rfl); (case hr => exact zq1); intro gb159 hg w27 hbox hb; have n0_ := am_ (blk_below (g := gb157) (o := .cells #[.bool a0_0, .slice A0_1 l0_1.length c0_1] 25 (0, 0)) (zq9 BK157.out) hb); have n1_ := am_ (blk_below (g := gb158) (o := .cells #[.bool a1_0, .slice A1_1 l1_1.length c1_1] 25 (0, 0)) (zq9 BK158.out) hb); have n2_ := am_ (below_step zq23 hb); have n3_ := am_ (hbox); have n4_ := am_ ((by rw [hg]; exact (below_size zq23) : w.heap.size ≤ gb159)); have n5_ := am_ ((by rw [hg]; exact Nat.ne_of_lt (blk_lt (g := gb157) (zq9 BK157.out)) : gb157 ≠ gb159)); have n6_ := am_ ((by rw [hg]; exact Nat.ne_of_gt (blk_lt (g := gb157) (zq9 BK157.out)) : gb159 ≠ gb157)); have n7_ := am_ ((by rw [hg]; exact Nat.ne_of_lt (blk_lt (g := gb158) (zq9 BK158.out)) : gb158 ≠ gb159)); have n8_ := am_ ((by rw [hg]; exact Nat.ne_of_gt (blk_lt (g := gb158) (zq9 BK158.out)) : gb159 ≠ gb158)); clear BK157 BK158 HB; have BK157 := n0_; have BK158 := n1_; have HB := n2_; have BK159 := n3_; have GE159 := n4_; have NB157_159 := n5_; have NB159_157 := n6_; have NB158_159 := n7_; have NB159_158 := n8_; clear n0_ n1_ n2_ n3_ n4_ n5_ n6_ n7_ n8_; clear hb hbox hg; have hnb28 := NB157_158.out; have hnc28 := NB158_157.out; have hnb29 := NB157_159.out; have hnc29 := NB159_157.out; have hcz30_0 : w27.cell? ⟨gb157, 0, none⟩ = some (.bool a0_0) := (blk_cell BK157.out 0).trans rfl; have hcz30_1 : w27.cell? ⟨gb157, 1, none⟩ = some (.slice A0_1 l0_1.length c0_1) := (blk_cell BK157.out 1).trans rfl; have hfz30_0 := blk_frozen BK157.out 0; have hfz30_1 := blk_frozen BK157.out 1; have hnb31 := NB158_159.out; have hnc31 := NB159_158.out; have hcz32_0 : w27.cell? ⟨gb158, 0, none⟩ = some (.bool a1_0) := (blk_cell BK158.out 0).trans rfl; have hcz32_1 : w27.cell? ⟨gb158, 1, none⟩ = some (.slice A1_1 l1_1.length c1_1) := (blk_cell BK158.out 1).trans rfl; have hfz32_0 := blk_frozen BK158.out 0; have hfz32_1 := blk_frozen BK158.out 1) | ((with_reducible refine gate_callee (f := 62) rfl ?_); refine goesL_ (some 22) rfl rfl Tryz.func62 (by kernel_rfl) rfl #[.slice A0_1 l0_1.length c0_1, .slice A1_1 l1_1.length c1_1] rfl zq4 ?_; (with_reducible refine (worldmintref05_compared.calls k _ _ l0_1 _ _ l1_1 t167 _ ?side1 ?side2 ?side3 ?side4 A21.out).mono ?_); (case side1 => exact zq24); (case side2 => exact HC0_1.out); (case side3 => exact zq25); (case side4 => exact HC1_1.out); rintro e w' ⟨rfl, ⟨nd, rfl⟩⟩; refine ⟨_, rfl, ?_⟩; (try (rw [drewN_self w27]; generalize hq_ : World.drewN w27 _ = w27; have n0_ : Aside0 (w27.heap[gb157]? = some (.cells #[.bool a0_0, .slice A0_1 l0_1.length c0_1] 25 (0, 0))) := ⟨by rw [← hq_]; exact (zq9 BK157.out)⟩; have n1_ : Aside0 (w27.heap[gb158]? = some (.cells #[.bool a1_0, .slice A1_1 l1_1.length c1_1] 25 (0, 0))) := ⟨by rw [← hq_]; exact (zq9 BK158.out)⟩; have n2_ : Aside0 (w27.heap[gb159]? = some (.cells #[.bool false, .slice none 0 0] 25 (0, 0))) := ⟨by rw [← hq_]; exact (zq9 BK159.out)⟩; have n3_ : Aside0 (Below w.heap.size w w27) := ⟨by rw [← hq_]; exact zq26⟩; clear BK157 BK158 BK159 HB hq_; have BK157 := n0_; have BK158 := n1_; have BK159 := n2_; have HB := n3_; clear n0_ n1_ n2_ n3_; have hqzBK157_0 := (blk_cell BK157.out 0).trans (show _ = some _ from rfl); have hqfBK157_0 := blk_frozen BK157.out 0; have hqzBK157_1 := (blk_cell BK157.out 1).trans (show _ = some _ from rfl); have hqfBK157_1 := blk_frozen BK157.out 1; have hqzBK158_0 := (blk_cell BK158.out 0).trans (show _ = some _ from rfl); have hqfBK158_0 := blk_frozen BK158.out 0; have hqzBK158_1 := (blk_cell BK158.out 1).trans (show _ = some _ from rfl); have hqfBK158_1 := blk_frozen BK158.out 1; have hqzBK159_0 := (blk_cell BK159.out 0).trans (show _ = some _ from rfl); have hqfBK159_0 := blk_frozen BK159.out 0; have hqzBK159_1 := (blk_cell BK159.out 1).trans (show _ = some _ from rfl); have hqfBK159_1 := blk_frozen BK159.out 1))))
   replace BK157 := am_ (blk_drew BK157.out); replace BK158 := am_ (blk_drew BK158.out); replace BK159 := am_ (blk_drew BK159.out); replace HB := am_ (below_drew1 HB.out)
   refine start_ (n := 9) (S := fun w' => w'.cell? ⟨gb158, 0, none⟩ = some (.bool a1_0) ∧ w'.cell? ⟨gb158, 1, none⟩ = some (.slice A1_1 l1_1.length c1_1) ∧ w'.cell? ⟨gb157, 0, none⟩ = some (.bool a0_0) ∧ w'.cell? ⟨gb157, 1, none⟩ = some (.slice A0_1 l0_1.length c0_1)) (ds := []) #[false, false, false, false, false, false, false, false, false] (by kernel_rfl) rfl rfl ⟨(blk_cell BK158.out 0).trans rfl, (blk_cell BK158.out 1).trans rfl, (blk_cell BK157.out 0).trans rfl, (blk_cell BK157.out 1).trans rfl⟩ (fun hHeld => ?_); refine with_tabW worldmintref05_Add.tab4 worldmintref05_Add.bits4 (fun HT_ HW_ => ?_)
   generalize w27.drew = w33 at BK157 BK158 BK159 HB hHeld ⊢
   refine pure_ (i := 0) (N := some 24) (v := ?_) (a' := ?_) #[true, false, false, false, false, false, false, false, false] rfl rfl (any_of HT_.out (by kernel_rfl)) (fun _ _ _ h => h) (Or.inl ⟨by rfl, ?_⟩) ?_ ?_
   rotate_left
   ·intro w'
    go_simp
    with_reducible rfl
   rotate_left
   ·exact za_
   refine pure_ (i := 2) (N := some 26) (v := ?_) (a' := ?_) #[true, false, true, false, false, false, false, false, false] rfl rfl (any_of HT_.out (by kernel_rfl)) (fun _ _ _ h => h) (Or.inl ⟨by rfl, ?_⟩) ?_ ?_
   rotate_left
   ·intro w'
    go_simp
    with_reducible rfl
   rotate_left
   ·exact za_
   refine pure_ (i := 4) (N := some 28) (v := ?_) (a' := ?_) #[true, false, true, false, true, false, false, false, false] rfl rfl (any_of HT_.out (by kernel_rfl)) (fun _ _ _ h => h) (Or.inl ⟨by rfl, ?_⟩) ?_ ?_
   rotate_left
   ·intro w'
    go_simp
    with_reducible rfl
   rotate_left
   ·exact za_
   refine take_ (i := 1) (N := some 25) (v := ?_) (a' := ?_) #[true, true, true, false, true, false, false, false, false] rfl rfl (take_ofW HT_.out HW_.out (by kernel_rfl)) (fun _ _ _ h => h) (Or.inl ⟨by rfl, ?_⟩) hHeld ?_ ?_
   rotate_left
   ·rintro w' ⟨s0, s1, s2, s3⟩
    go_simp
    with_reducible rfl
   rotate_left
   ·exact za_
   refine take_ (i := 3) (N := some 27) (v := ?_) (a' := ?_) #[true, true, true, true, true, false, false, false, false] rfl rfl (take_ofW HT_.out HW_.out (by kernel_rfl)) (fun _ _ _ h => h) (Or.inl ⟨by rfl, ?_⟩) hHeld ?_ ?_
   rotate_left
   ·rintro w' ⟨s0, s1, s2, s3⟩
    go_simp
    with_reducible rfl
   rotate_left
   ·exact za_
   refine take_ (i := 5) (N := some 29) (v := ?_) (a' := ?_) #[true, true, true, true, true, true, false, false, false] rfl rfl (take_ofW HT_.out HW_.out (by kernel_rfl)) (fun _ _ _ h => h) (Or.inl ⟨by rfl, ?_⟩) hHeld ?_ ?_
   rotate_left
   ·rintro w' ⟨s0, s1, s2, s3⟩
    go_simp
    with_reducible rfl
   rotate_left
   ·exact za_
   refine one_ (i := 6) (N := some 30) #[true, true, true, true, true, true, true, false, false] rfl rfl (one_of HT_.out (by kernel_rfl)) (by decide) (fun K hK => ?_)
   refine goes_ Tryz.func63 (by kernel_rfl) rfl #[.slice A1_1 l1_1.length c1_1, .slice A0_1 l0_1.length c0_1] (by rfl) rfl rfl zq4 ?_
   with_reducible refine (worldmintref05_minus.calls k _ _ l1_1 _ _ l0_1 t168 _ ?side1 ?side2 ?side3 ?side4 A23.out).mono ?_
   (case side1 => exact zq25)
   (case side2 => exact HC1_1.out)
   (case side3 => exact zq24)
   (case side4 => exact HC0_1.out)
   rintro e w34 ⟨v169, rfl, ho0, hb⟩
   refine ⟨_, rfl, ?_⟩
   have HO170 := am_ (Kd.R_lower (Kd.R_newM (M := fun k_ => (w.heap.size ≤ k_)) ho0 (below_size zq26) (fun k_ h_ => h_)) (below_size zq26)); replace BK157 := am_ (blk_below (g := gb157) (o := .cells #[.bool a0_0, .slice A0_1 l0_1.length c0_1] 25 (0, 0)) (zq9 BK157.out) hb); replace BK158 := am_ (blk_below (g := gb158) (o := .cells #[.bool a1_0, .slice A1_1 l1_1.length c1_1] 25 (0, 0)) (zq9 BK158.out) hb); replace BK159 := am_ (blk_below (g := gb159) (o := .cells #[.bool false, .slice none 0 0] 25 (0, 0)) (zq9 BK159.out) hb); replace HB := am_ (below_step zq26 hb); (try clear hb); (try clear ho0)
   obtain ⟨Ao35, co35, eo35⟩ := Kd.R_slice HO170.out
   (first | subst eo35 | (injection eo35 with f1_ f2_ f3_; have f4_ := f1_.symm; have f5_ := f3_.symm; clear f1_ f2_ f3_; subst f4_; subst f5_))
   refine hK.out _ _ ⟨(blk_cell BK158.out 0).trans rfl, (blk_cell BK158.out 1).trans rfl, (blk_cell BK157.out 0).trans rfl, (blk_cell BK157.out 1).trans rfl⟩ (fun hHeld => ?_)
   clear hK K
   refine norm_ (a' := ?_) ?_ ?_
   rotate_left
   ·show Act.put _ (some 30) _ = _
    exact za_
   refine one_ (i := 7) (N := some 31) #[true, true, true, true, true, true, true, true, false] rfl rfl (one_of HT_.out (by kernel_rfl)) (by decide) (fun K hK => ?_)
   refine goes_ Tryz.func54 (by kernel_rfl) rfl #[.bool a1_0, .slice Ao35 t168.length co35] (by rfl) rfl rfl zq4 ?_
   with_reducible refine (worldmintref05_normal.calls k a1_0 (fun k_ => some k_ = (.slice Ao35 t168.length co35 : Value).ownBlock) _ _ t168 t171 t172 _ ?side1 A24.out).mono ?_
   (case side1 => exact Kd.R_V (Kd.R_tight rfl (Kd.R_types (Kd.R_types (Kd.R_types (HO170.out) BK157.out (by decide)) BK158.out (by decide)) BK159.out (by decide))))
   rintro e w36 ⟨v173, rfl, ho0, hb⟩
   refine ⟨_, rfl, ?_⟩
   have n0_ := am_ (Kd.R_below (zq7 HO170.out) hb); have n1_ := am_ (Kd.V_lower (Kd.V_mono (ok' := fun k_ => (w.heap.size ≤ k_) ∧ k_ ≠ gb157 ∧ k_ ≠ gb158 ∧ k_ ≠ gb159) ho0 (fun k_ hk_ => ⟨Or.elim hk_ (fun hs_ => ((Kd.R_types (Kd.R_types (Kd.R_types (HO170.out) BK157.out (by decide)) BK158.out (by decide)) BK159.out (by decide)).1 k_ hs_.symm).1.1.1.1) (fun hn_ => (Nat.le_trans (below_size zq26) hn_)), Or.elim hk_ (fun hs_ => ((Kd.R_types (Kd.R_types (Kd.R_types (HO170.out) BK157.out (by decide)) BK158.out (by decide)) BK159.out (by decide)).1 k_ hs_.symm).1.1.2) (fun hn_ => (Kd.freshB (g := gb157) (o := .cells #[.bool a0_0, .slice A0_1 l0_1.length c0_1] 25 (0, 0)) (zq9 BK157.out) k_ hn_)), Or.elim hk_ (fun hs_ => ((Kd.R_types (Kd.R_types (Kd.R_types (HO170.out) BK157.out (by decide)) BK158.out (by decide)) BK159.out (by decide)).1 k_ hs_.symm).1.2) (fun hn_ => (Kd.freshB (g := gb158) (o := .cells #[.bool a1_0, .slice A1_1 l1_1.length c1_1] 25 (0, 0)) (zq9 BK158.out) k_ hn_)), Or.elim hk_ (fun hs_ => ((Kd.R_types (Kd.R_types (Kd.R_types (HO170.out) BK157.out (by decide)) BK158.out (by decide)) BK159.out (by decide)).1 k_ hs_.symm).2) (fun hn_ => (Kd.freshB (g := gb159) (o := .cells #[.bool false, .slice none 0 0] 25 (0, 0)) (zq9 BK159.out) k_ hn_))⟩)) (below_size zq26)); have n2_ := am_ (blk_below (g := gb157) (o := .cells #[.bool a0_0, .slice A0_1 l0_1.length c0_1] 25 (0, 0)) (zq9 BK157.out) hb); have n3_ := am_ (blk_below (g := gb158) (o := .cells #[.bool a1_0, .slice A1_1 l1_1.length c1_1] 25 (0, 0)) (zq9 BK158.out) hb); have n4_ := am_ (blk_below (g := gb159) (o := .cells #[.bool false, .slice none 0 0] 25 (0, 0)) (zq9 BK159.out) hb); have n5_ := am_ (below_step zq26 hb); clear HO170 BK157 BK158 BK159 HB; have HO170 := n0_; have HO174 := n1_; have BK157 := n2_; have BK158 := n3_; have BK159 := n4_; have HB := n5_; clear n0_ n1_ n2_ n3_ n4_ n5_; (try clear hb); (try clear ho0)
   obtain ⟨Ao38, co38, eo38⟩ := Kd.V_slice HO174.out
   (first | subst eo38 | (injection eo38 with f1_ f2_ f3_; have f4_ := f1_.symm; have f5_ := f3_.symm; clear f1_ f2_ f3_; subst f4_; subst f5_))
   refine hK.out _ _ ⟨(blk_cell BK158.out 0).trans rfl, (blk_cell BK158.out 1).trans rfl, (blk_cell BK157.out 0).trans rfl, (blk_cell BK157.out 1).trans rfl⟩ (fun hHeld => ?_)
   clear hK K
   refine norm_ (a' := ?_) ?_ ?_
   rotate_left
   ·show Act.put _ (some 31) _ = _
    exact za_
   refine one_ (i := 8) (N := none) #[true, true, true, true, true, true, true, true, true] rfl rfl (one_of HT_.out (by kernel_rfl)) (by decide) (fun K hK => ?_)
   have hs37 : w36.cell? ⟨gb159, 0, none⟩ = some (.bool false) := (blk_cell BK159.out 0).trans rfl
   have hfs37 := blk_frozen BK159.out 0
   have hns37_0 := NB157_159.out
   have hns37_1 := NB158_159.out
   have hms37_0 := NB159_157.out
   have hms37_1 := NB159_158.out
   have hs39 : w36.cell? ⟨gb159, 1, none⟩ = some (.slice none 0 0) := (blk_cell BK159.out 1).trans rfl
   have hfs39 := blk_frozen BK159.out 1
   have hns39_0 := NB157_159.out
   have hns39_1 := NB158_159.out
   have hms39_0 := NB159_157.out
   have hms39_1 := NB159_158.out
   refine skip_ (w1 := ?_) (by rfl) rfl ?_ ?_
   rotate_left
   ·go_simp
    rfl
   refine hK.out _ _ ⟨((cell_far (p := ⟨gb159, _, none⟩) NB158_159.out _).trans (((cell_far (p := ⟨gb159, _, none⟩) NB158_159.out _).trans (hHeld.1)))), ((cell_far (p := ⟨gb159, _, none⟩) NB158_159.out _).trans (((cell_far (p := ⟨gb159, _, none⟩) NB158_159.out _).trans (hHeld.2.1)))), ((cell_far (p := ⟨gb159, _, none⟩) NB157_159.out _).trans (((cell_far (p := ⟨gb159, _, none⟩) NB157_159.out _).trans (hHeld.2.2.1)))), ((cell_far (p := ⟨gb159, _, none⟩) NB157_159.out _).trans (((cell_far (p := ⟨gb159, _, none⟩) NB157_159.out _).trans (hHeld.2.2.2))))⟩ (fun hHeld => ?_)
   clear hK K
   refine done_ (done_of HT_.out (by kernel_rfl)) ?_
   try go_wp2
   refine bodyPost_ret (results_cell_row rfl _ _ gb159 25 #[.bool t171, .slice Ao38 t172.length co38] (0, 0) _ rfl (by (with_reducible repeat (first | refine blk_drewN ?_ _ | refine blk_drew ?_ | refine blk_alloc ?_ _)); refine blk_put (cs := #[.bool t171, .slice none 0 0]) ?_ 1 _ rfl; (with_reducible repeat (first | refine blk_drewN ?_ _ | refine blk_drew ?_ | refine blk_alloc ?_ _)); refine blk_put (cs := #[.bool false, .slice none 0 0]) ?_ 0 _ rfl; (with_reducible repeat (first | refine blk_drewN ?_ _ | refine blk_drew ?_ | refine blk_alloc ?_ _)); exact BK159.out) Tryz.underlying25 rfl (by kernel_rfl)) rfl ?_
   exact ⟨_, by first | rfl | (simp [errW_none, errW_some] <;> rfl) | (simp [*, errW_none, errW_some] <;> rfl), by (with_reducible repeat (first | apply Kd.V_alloc | apply Kd.V_drewN | apply Kd.V_drew)); exact Kd.V_mono (Kd.V_far (p := ⟨gb159, 1, none⟩) (Kd.V_far (p := ⟨gb159, 0, none⟩) (Kd.V_mono HO174.out (fun k_ hk => (⟨hk, hk.2.2.2⟩ : _ ∧ k_ ≠ gb159))) (fun _ hk => hk.2) (.bool t171)) (fun _ hk => hk.2) (.slice Ao38 t172.length co38)) (fun _ hk => hk.1.1), by repeat (first | (with_reducible first | exact HB.out | apply below_alloc | apply pw_below_drewN | apply below_drew1 | refine below_set ?_ GE157.out | refine below_set ?_ GE158.out | refine below_set ?_ GE159.out) | exact HB.out)⟩
  ·rw [if_neg c22] at H
   have c22b0 : decide (t167 < 0) = false := decide_eq_false c22
   clear c22
   replace H := Option.bind_eq_some_iff.mp H
   obtain ⟨t175, A400, H⟩ := H
   replace H : ((worldmintref05_normal.f k a0_0 t175).bind fun bt178 => (some (bt178.1, bt178.2))) = some (r1, r2) := H
   have A40 := am_ A400
   clear A400
   replace H := Option.bind_eq_some_iff.mp H
   obtain ⟨⟨t178, t179⟩, A410, H⟩ := H
   replace H : (some (t178, t179)) = some (r1, r2) := H
   have A41 := am_ A410
   clear A410
   simp only [Option.some.injEq, Prod.mk.injEq] at H
   obtain ⟨rfl, rfl⟩ := H
   go_enter Tryz.func29, Tryz.ntmps29
   try go_wp2_with (first | ((with_reducible refine gate_dst (N := 2) rfl ?_); refine box_event ?hg (N := 2) ?hd (cs := #[.bool a0_0, .slice A0_1 l0_1.length c0_1]) (t := 25) ?hr ?_; (case hd => rfl); (case hg => rfl); (case hr => exact zq1); intro gb157 hg w42 hbox hb; have n0_ := am_ (below_step zq2 hb); have n1_ := am_ (hbox); have n2_ := am_ ((by rw [hg]; exact (below_size zq2) : w.heap.size ≤ gb157)); clear HB; have HB := n0_; have BK157 := n1_; have GE157 := n2_; clear n0_ n1_ n2_; clear hb hbox hg) | ((with_reducible refine gate_dst (N := 3) rfl ?_); refine box_event ?hg (N := 3) ?hd (cs := #[.bool a1_0, .slice A1_1 l1_1.length c1_1]) (t := 25) ?hr ?_; (case hd => rfl); (case hg => rfl); (case hr => exact zq1); intro gb158 hg w43 hbox hb; have n0_ := am_ (blk_below (g := gb157) (o := .cells #[.bool a0_0, .slice A0_1 l0_1.length c0_1] 25 (0, 0)) (zq9 BK157.out) hb); have n1_ := am_ (below_step zq22 hb); have n2_ := am_ (hbox); have n3_ := am_ ((by rw [hg]; exact (below_size zq22) : w.heap.size ≤ gb158)); have n4_ := am_ ((by rw [hg]; exact Nat.ne_of_lt (blk_lt (g := gb157) (zq9 BK157.out)) : gb157 ≠ gb158)); have n5_ := am_ ((by rw [hg]; exact Nat.ne_of_gt (blk_lt (g := gb157) (zq9 BK157.out)) : gb158 ≠ gb157)); clear BK157 HB; have BK157 := n0_; have HB := n1_; have BK158 := n2_; have GE158 := n3_; have NB157_158 := n4_; have NB158_157 := n5_; clear n0_ n1_ n2_ n3_ n4_ n5_; clear hb hbox hg) | ((with_reducible refine gate_dst (N := 4) rfl ?_); refine box_event ?hg (N := 4) ?hd (cs := #[.bool false, .slice none 0 0]) (t := 25) ?hr ?_; (case hd => rfl); (case hg => rfl); (case hr => exact zq1); intro gb159 hg w44 hbox hb; have n0_ := am_ (blk_below (g := gb157) (o := .cells #[.bool a0_0, .slice A0_1 l0_1.length c0_1] 25 (0, 0)) (zq9 BK157.out) hb); have n1_ := am_ (blk_below (g := gb158) (o := .cells #[.bool a1_0, .slice A1_1 l1_1.length c1_1] 25 (0, 0)) (zq9 BK158.out) hb); have n2_ := am_ (below_step zq23 hb); have n3_ := am_ (hbox); have n4_ := am_ ((by rw [hg]; exact (below_size zq23) : w.heap.size ≤ gb159)); have n5_ := am_ ((by rw [hg]; exact Nat.ne_of_lt (blk_lt (g := gb157) (zq9 BK157.out)) : gb157 ≠ gb159)); have n6_ := am_ ((by rw [hg]; exact Nat.ne_of_gt (blk_lt (g := gb157) (zq9 BK157.out)) : gb159 ≠ gb157)); have n7_ := am_ ((by rw [hg]; exact Nat.ne_of_lt (blk_lt (g := gb158) (zq9 BK158.out)) : gb158 ≠ gb159)); have n8_ := am_ ((by rw [hg]; exact Nat.ne_of_gt (blk_lt (g := gb158) (zq9 BK158.out)) : gb159 ≠ gb158)); clear BK157 BK158 HB; have BK157 := n0_; have BK158 := n1_; have HB := n2_; have BK159 := n3_; have GE159 := n4_; have NB157_159 := n5_; have NB159_157 := n6_; have NB158_159 := n7_; have NB159_158 := n8_; clear n0_ n1_ n2_ n3_ n4_ n5_ n6_ n7_ n8_; clear hb hbox hg; have hnb45 := NB157_158.out; have hnc45 := NB158_157.out; have hnb46 := NB157_159.out; have hnc46 := NB159_157.out; have hcz47_0 : w44.cell? ⟨gb157, 0, none⟩ = some (.bool a0_0) := (blk_cell BK157.out 0).trans rfl; have hcz47_1 : w44.cell? ⟨gb157, 1, none⟩ = some (.slice A0_1 l0_1.length c0_1) := (blk_cell BK157.out 1).trans rfl; have hfz47_0 := blk_frozen BK157.out 0; have hfz47_1 := blk_frozen BK157.out 1; have hnb48 := NB158_159.out; have hnc48 := NB159_158.out; have hcz49_0 : w44.cell? ⟨gb158, 0, none⟩ = some (.bool a1_0) := (blk_cell BK158.out 0).trans rfl; have hcz49_1 : w44.cell? ⟨gb158, 1, none⟩ = some (.slice A1_1 l1_1.length c1_1) := (blk_cell BK158.out 1).trans rfl; have hfz49_0 := blk_frozen BK158.out 0; have hfz49_1 := blk_frozen BK158.out 1) | ((with_reducible refine gate_callee (f := 62) rfl ?_); refine goesL_ (some 22) rfl rfl Tryz.func62 (by kernel_rfl) rfl #[.slice A0_1 l0_1.length c0_1, .slice A1_1 l1_1.length c1_1] rfl zq4 ?_; (with_reducible refine (worldmintref05_compared.calls k _ _ l0_1 _ _ l1_1 t167 _ ?side1 ?side2 ?side3 ?side4 A21.out).mono ?_); (case side1 => exact zq24); (case side2 => exact HC0_1.out); (case side3 => exact zq25); (case side4 => exact HC1_1.out); rintro e w' ⟨rfl, ⟨nd, rfl⟩⟩; refine ⟨_, rfl, ?_⟩; (try (rw [drewN_self w44]; generalize hq_ : World.drewN w44 _ = w44; have n0_ : Aside0 (w44.heap[gb157]? = some (.cells #[.bool a0_0, .slice A0_1 l0_1.length c0_1] 25 (0, 0))) := ⟨by rw [← hq_]; exact (zq9 BK157.out)⟩; have n1_ : Aside0 (w44.heap[gb158]? = some (.cells #[.bool a1_0, .slice A1_1 l1_1.length c1_1] 25 (0, 0))) := ⟨by rw [← hq_]; exact (zq9 BK158.out)⟩; have n2_ : Aside0 (w44.heap[gb159]? = some (.cells #[.bool false, .slice none 0 0] 25 (0, 0))) := ⟨by rw [← hq_]; exact (zq9 BK159.out)⟩; have n3_ : Aside0 (Below w.heap.size w w44) := ⟨by rw [← hq_]; exact zq26⟩; clear BK157 BK158 BK159 HB hq_; have BK157 := n0_; have BK158 := n1_; have BK159 := n2_; have HB := n3_; clear n0_ n1_ n2_ n3_; have hqzBK157_0 := (blk_cell BK157.out 0).trans (show _ = some _ from rfl); have hqfBK157_0 := blk_frozen BK157.out 0; have hqzBK157_1 := (blk_cell BK157.out 1).trans (show _ = some _ from rfl); have hqfBK157_1 := blk_frozen BK157.out 1; have hqzBK158_0 := (blk_cell BK158.out 0).trans (show _ = some _ from rfl); have hqfBK158_0 := blk_frozen BK158.out 0; have hqzBK158_1 := (blk_cell BK158.out 1).trans (show _ = some _ from rfl); have hqfBK158_1 := blk_frozen BK158.out 1; have hqzBK159_0 := (blk_cell BK159.out 0).trans (show _ = some _ from rfl); have hqfBK159_0 := blk_frozen BK159.out 0; have hqzBK159_1 := (blk_cell BK159.out 1).trans (show _ = some _ from rfl); have hqfBK159_1 := blk_frozen BK159.out 1))))
   replace BK157 := am_ (blk_drew BK157.out); replace BK158 := am_ (blk_drew BK158.out); replace BK159 := am_ (blk_drew BK159.out); replace HB := am_ (below_drew1 HB.out)
   refine start_ (n := 9) (S := fun w' => w'.cell? ⟨gb157, 0, none⟩ = some (.bool a0_0) ∧ w'.cell? ⟨gb157, 1, none⟩ = some (.slice A0_1 l0_1.length c0_1) ∧ w'.cell? ⟨gb158, 0, none⟩ = some (.bool a1_0) ∧ w'.cell? ⟨gb158, 1, none⟩ = some (.slice A1_1 l1_1.length c1_1)) (ds := []) #[false, false, false, false, false, false, false, false, false] (by kernel_rfl) rfl rfl ⟨(blk_cell BK157.out 0).trans rfl, (blk_cell BK157.out 1).trans rfl, (blk_cell BK158.out 0).trans rfl, (blk_cell BK158.out 1).trans rfl⟩ (fun hHeld => ?_); refine with_tabW worldmintref05_Add.tab5 worldmintref05_Add.bits5 (fun HT_ HW_ => ?_)
   generalize w44.drew = w50 at BK157 BK158 BK159 HB hHeld ⊢
   refine pure_ (i := 0) (N := some 32) (v := ?_) (a' := ?_) #[true, false, false, false, false, false, false, false, false] rfl rfl (any_of HT_.out (by kernel_rfl)) (fun _ _ _ h => h) (Or.inl ⟨by rfl, ?_⟩) ?_ ?_
   rotate_left
   ·intro w'
    go_simp
    with_reducible rfl
   rotate_left
   ·exact za_
   refine pure_ (i := 2) (N := some 34) (v := ?_) (a' := ?_) #[true, false, true, false, false, false, false, false, false] rfl rfl (any_of HT_.out (by kernel_rfl)) (fun _ _ _ h => h) (Or.inl ⟨by rfl, ?_⟩) ?_ ?_
   rotate_left
   ·intro w'
    go_simp
    with_reducible rfl
   rotate_left
   ·exact za_
   refine pure_ (i := 4) (N := some 36) (v := ?_) (a' := ?_) #[true, false, true, false, true, false, false, false, false] rfl rfl (any_of HT_.out (by kernel_rfl)) (fun _ _ _ h => h) (Or.inl ⟨by rfl, ?_⟩) ?_ ?_
   rotate_left
   ·intro w'
    go_simp
    with_reducible rfl
   rotate_left
   ·exact za_
   refine take_ (i := 1) (N := some 33) (v := ?_) (a' := ?_) #[true, true, true, false, true, false, false, false, false] rfl rfl (take_ofW HT_.out HW_.out (by kernel_rfl)) (fun _ _ _ h => h) (Or.inl ⟨by rfl, ?_⟩) hHeld ?_ ?_
   rotate_left
   ·rintro w' ⟨s0, s1, s2, s3⟩
    go_simp
    with_reducible rfl
   rotate_left
   ·exact za_
   refine take_ (i := 3) (N := some 35) (v := ?_) (a' := ?_) #[true, true, true, true, true, false, false, false, false] rfl rfl (take_ofW HT_.out HW_.out (by kernel_rfl)) (fun _ _ _ h => h) (Or.inl ⟨by rfl, ?_⟩) hHeld ?_ ?_
   rotate_left
   ·rintro w' ⟨s0, s1, s2, s3⟩
    go_simp
    with_reducible rfl
   rotate_left
   ·exact za_
   refine take_ (i := 5) (N := some 37) (v := ?_) (a' := ?_) #[true, true, true, true, true, true, false, false, false] rfl rfl (take_ofW HT_.out HW_.out (by kernel_rfl)) (fun _ _ _ h => h) (Or.inl ⟨by rfl, ?_⟩) hHeld ?_ ?_
   rotate_left
   ·rintro w' ⟨s0, s1, s2, s3⟩
    go_simp
    with_reducible rfl
   rotate_left
   ·exact za_
   refine one_ (i := 6) (N := some 38) #[true, true, true, true, true, true, true, false, false] rfl rfl (one_of HT_.out (by kernel_rfl)) (by decide) (fun K hK => ?_)
   refine goes_ Tryz.func63 (by kernel_rfl) rfl #[.slice A0_1 l0_1.length c0_1, .slice A1_1 l1_1.length c1_1] (by rfl) rfl rfl zq4 ?_
   with_reducible refine (worldmintref05_minus.calls k _ _ l0_1 _ _ l1_1 t175 _ ?side1 ?side2 ?side3 ?side4 A40.out).mono ?_
   (case side1 => exact zq24)
   (case side2 => exact HC0_1.out)
   (case side3 => exact zq25)
   (case side4 => exact HC1_1.out)
   rintro e w51 ⟨v176, rfl, ho0, hb⟩
   refine ⟨_, rfl, ?_⟩
   have HO177 := am_ (Kd.R_lower (Kd.R_newM (M := fun k_ => (w.heap.size ≤ k_)) ho0 (below_size zq26) (fun k_ h_ => h_)) (below_size zq26)); replace BK157 := am_ (blk_below (g := gb157) (o := .cells #[.bool a0_0, .slice A0_1 l0_1.length c0_1] 25 (0, 0)) (zq9 BK157.out) hb); replace BK158 := am_ (blk_below (g := gb158) (o := .cells #[.bool a1_0, .slice A1_1 l1_1.length c1_1] 25 (0, 0)) (zq9 BK158.out) hb); replace BK159 := am_ (blk_below (g := gb159) (o := .cells #[.bool false, .slice none 0 0] 25 (0, 0)) (zq9 BK159.out) hb); replace HB := am_ (below_step zq26 hb); (try clear hb); (try clear ho0)
   obtain ⟨Ao52, co52, eo52⟩ := Kd.R_slice HO177.out
   (first | subst eo52 | (injection eo52 with f1_ f2_ f3_; have f4_ := f1_.symm; have f5_ := f3_.symm; clear f1_ f2_ f3_; subst f4_; subst f5_))
   refine hK.out _ _ ⟨(blk_cell BK157.out 0).trans rfl, (blk_cell BK157.out 1).trans rfl, (blk_cell BK158.out 0).trans rfl, (blk_cell BK158.out 1).trans rfl⟩ (fun hHeld => ?_)
   clear hK K
   refine norm_ (a' := ?_) ?_ ?_
   rotate_left
   ·show Act.put _ (some 38) _ = _
    exact za_
   refine one_ (i := 7) (N := some 39) #[true, true, true, true, true, true, true, true, false] rfl rfl (one_of HT_.out (by kernel_rfl)) (by decide) (fun K hK => ?_)
   refine goes_ Tryz.func54 (by kernel_rfl) rfl #[.bool a0_0, .slice Ao52 t175.length co52] (by rfl) rfl rfl zq4 ?_
   with_reducible refine (worldmintref05_normal.calls k a0_0 (fun k_ => some k_ = (.slice Ao52 t175.length co52 : Value).ownBlock) _ _ t175 t178 t179 _ ?side1 A41.out).mono ?_
   (case side1 => exact Kd.R_V (Kd.R_tight rfl (Kd.R_types (Kd.R_types (Kd.R_types (HO177.out) BK157.out (by decide)) BK158.out (by decide)) BK159.out (by decide))))
   rintro e w53 ⟨v180, rfl, ho0, hb⟩
   refine ⟨_, rfl, ?_⟩
   have n0_ := am_ (Kd.R_below (zq7 HO177.out) hb); have n1_ := am_ (Kd.V_lower (Kd.V_mono (ok' := fun k_ => (w.heap.size ≤ k_) ∧ k_ ≠ gb157 ∧ k_ ≠ gb158 ∧ k_ ≠ gb159) ho0 (fun k_ hk_ => ⟨Or.elim hk_ (fun hs_ => ((Kd.R_types (Kd.R_types (Kd.R_types (HO177.out) BK157.out (by decide)) BK158.out (by decide)) BK159.out (by decide)).1 k_ hs_.symm).1.1.1.1) (fun hn_ => (Nat.le_trans (below_size zq26) hn_)), Or.elim hk_ (fun hs_ => ((Kd.R_types (Kd.R_types (Kd.R_types (HO177.out) BK157.out (by decide)) BK158.out (by decide)) BK159.out (by decide)).1 k_ hs_.symm).1.1.2) (fun hn_ => (Kd.freshB (g := gb157) (o := .cells #[.bool a0_0, .slice A0_1 l0_1.length c0_1] 25 (0, 0)) (zq9 BK157.out) k_ hn_)), Or.elim hk_ (fun hs_ => ((Kd.R_types (Kd.R_types (Kd.R_types (HO177.out) BK157.out (by decide)) BK158.out (by decide)) BK159.out (by decide)).1 k_ hs_.symm).1.2) (fun hn_ => (Kd.freshB (g := gb158) (o := .cells #[.bool a1_0, .slice A1_1 l1_1.length c1_1] 25 (0, 0)) (zq9 BK158.out) k_ hn_)), Or.elim hk_ (fun hs_ => ((Kd.R_types (Kd.R_types (Kd.R_types (HO177.out) BK157.out (by decide)) BK158.out (by decide)) BK159.out (by decide)).1 k_ hs_.symm).2) (fun hn_ => (Kd.freshB (g := gb159) (o := .cells #[.bool false, .slice none 0 0] 25 (0, 0)) (zq9 BK159.out) k_ hn_))⟩)) (below_size zq26)); have n2_ := am_ (blk_below (g := gb157) (o := .cells #[.bool a0_0, .slice A0_1 l0_1.length c0_1] 25 (0, 0)) (zq9 BK157.out) hb); have n3_ := am_ (blk_below (g := gb158) (o := .cells #[.bool a1_0, .slice A1_1 l1_1.length c1_1] 25 (0, 0)) (zq9 BK158.out) hb); have n4_ := am_ (blk_below (g := gb159) (o := .cells #[.bool false, .slice none 0 0] 25 (0, 0)) (zq9 BK159.out) hb); have n5_ := am_ (below_step zq26 hb); clear HO177 BK157 BK158 BK159 HB; have HO177 := n0_; have HO181 := n1_; have BK157 := n2_; have BK158 := n3_; have BK159 := n4_; have HB := n5_; clear n0_ n1_ n2_ n3_ n4_ n5_; (try clear hb); (try clear ho0)
   obtain ⟨Ao55, co55, eo55⟩ := Kd.V_slice HO181.out
   (first | subst eo55 | (injection eo55 with f1_ f2_ f3_; have f4_ := f1_.symm; have f5_ := f3_.symm; clear f1_ f2_ f3_; subst f4_; subst f5_))
   refine hK.out _ _ ⟨(blk_cell BK157.out 0).trans rfl, (blk_cell BK157.out 1).trans rfl, (blk_cell BK158.out 0).trans rfl, (blk_cell BK158.out 1).trans rfl⟩ (fun hHeld => ?_)
   clear hK K
   refine norm_ (a' := ?_) ?_ ?_
   rotate_left
   ·show Act.put _ (some 39) _ = _
    exact za_
   refine one_ (i := 8) (N := none) #[true, true, true, true, true, true, true, true, true] rfl rfl (one_of HT_.out (by kernel_rfl)) (by decide) (fun K hK => ?_)
   have hs54 : w53.cell? ⟨gb159, 0, none⟩ = some (.bool false) := (blk_cell BK159.out 0).trans rfl
   have hfs54 := blk_frozen BK159.out 0
   have hns54_0 := NB157_159.out
   have hns54_1 := NB158_159.out
   have hms54_0 := NB159_157.out
   have hms54_1 := NB159_158.out
   have hs56 : w53.cell? ⟨gb159, 1, none⟩ = some (.slice none 0 0) := (blk_cell BK159.out 1).trans rfl
   have hfs56 := blk_frozen BK159.out 1
   have hns56_0 := NB157_159.out
   have hns56_1 := NB158_159.out
   have hms56_0 := NB159_157.out
   have hms56_1 := NB159_158.out
   refine skip_ (w1 := ?_) (by rfl) rfl ?_ ?_
   rotate_left
   ·go_simp
    rfl
   refine hK.out _ _ ⟨((cell_far (p := ⟨gb159, _, none⟩) NB157_159.out _).trans (((cell_far (p := ⟨gb159, _, none⟩) NB157_159.out _).trans (hHeld.1)))), ((cell_far (p := ⟨gb159, _, none⟩) NB157_159.out _).trans (((cell_far (p := ⟨gb159, _, none⟩) NB157_159.out _).trans (hHeld.2.1)))), ((cell_far (p := ⟨gb159, _, none⟩) NB158_159.out _).trans (((cell_far (p := ⟨gb159, _, none⟩) NB158_159.out _).trans (hHeld.2.2.1)))), ((cell_far (p := ⟨gb159, _, none⟩) NB158_159.out _).trans (((cell_far (p := ⟨gb159, _, none⟩) NB158_159.out _).trans (hHeld.2.2.2))))⟩ (fun hHeld => ?_)
   clear hK K
   refine done_ (done_of HT_.out (by kernel_rfl)) ?_
   try go_wp2
   refine bodyPost_ret (results_cell_row rfl _ _ gb159 25 #[.bool t178, .slice Ao55 t179.length co55] (0, 0) _ rfl (by (with_reducible repeat (first | refine blk_drewN ?_ _ | refine blk_drew ?_ | refine blk_alloc ?_ _)); refine blk_put (cs := #[.bool t178, .slice none 0 0]) ?_ 1 _ rfl; (with_reducible repeat (first | refine blk_drewN ?_ _ | refine blk_drew ?_ | refine blk_alloc ?_ _)); refine blk_put (cs := #[.bool false, .slice none 0 0]) ?_ 0 _ rfl; (with_reducible repeat (first | refine blk_drewN ?_ _ | refine blk_drew ?_ | refine blk_alloc ?_ _)); exact BK159.out) Tryz.underlying25 rfl (by kernel_rfl)) rfl ?_
   exact ⟨_, by first | rfl | (simp [errW_none, errW_some] <;> rfl) | (simp [*, errW_none, errW_some] <;> rfl), by (with_reducible repeat (first | apply Kd.V_alloc | apply Kd.V_drewN | apply Kd.V_drew)); exact Kd.V_mono (Kd.V_far (p := ⟨gb159, 1, none⟩) (Kd.V_far (p := ⟨gb159, 0, none⟩) (Kd.V_mono HO181.out (fun k_ hk => (⟨hk, hk.2.2.2⟩ : _ ∧ k_ ≠ gb159))) (fun _ hk => hk.2) (.bool t178)) (fun _ hk => hk.2) (.slice Ao55 t179.length co55)) (fun _ hk => hk.1.1), by repeat (first | (with_reducible first | exact HB.out | apply below_alloc | apply pw_below_drewN | apply below_drew1 | refine below_set ?_ GE157.out | refine below_set ?_ GE158.out | refine below_set ?_ GE159.out) | exact HB.out)⟩

/-! ### worldmintref01_Around: function 14 -/
def worldmintref01_Around.f (a0 : Int) (a1 : Int) : Option (Int) := if a0 < 0 then (if a1 = 0 then (none) else (some (Int.tmod (wrap64 (-(wrap64 (a0 + 1)))) a1))) else (if a1 = 0 then (none) else (some (Int.tmod a0 a1)))
set_option maxHeartbeats 8000000 in
set_option maxRecDepth 100000 in
theorem worldmintref01_Around.calls (a0 : Int) (a1 : Int) (r : Int) (w : World) (h : worldmintref01_Around.f a0 a1 = some r) :
  Calls Tryz.prog 14 #[.int .i64 a0, .int .i64 a1] w fun e w' => e = .returned (.int .i64 r) ∧ Drawn0 w w' := by
 have H : (if a0 < 0 then (if a1 = 0 then (none) else (some (Int.tmod (wrap64 (-(wrap64 (a0 + 1)))) a1))) else (if a1 = 0 then (none) else (some (Int.tmod a0 a1)))) = some r := h
 clear h
 by_cases c3 : a0 < 0
 ·rw [if_pos c3] at H
  have c3b0 : decide (a0 < 0) = true := decide_eq_true c3
  clear c3
  by_cases c4 : a1 = 0
  ·rw [if_pos c4] at H
   exact absurd H (by simp)
  ·rw [if_neg c4] at H
   have c4b0 : (a1 == 0) = false := beq_eq_false_iff_ne.mpr c4
   have c4b1 : (a1 != 0) = true := bne_iff_ne.mpr c4
   obtain rfl := Option.some.inj H
   go_enter Tryz.func14, Tryz.ntmps14
   go_wp2
   go_ret
   exact ⟨by first | rfl | (simp; done) | (simp [*]; done), by repeat (first | exact Drawn0.refl _ | apply Drawn0.step)⟩
 ·rw [if_neg c3] at H
  have c3b0 : decide (a0 < 0) = false := decide_eq_false c3
  clear c3
  by_cases c5 : a1 = 0
  ·rw [if_pos c5] at H
   exact absurd H (by simp)
  ·rw [if_neg c5] at H
   have c5b0 : (a1 == 0) = false := beq_eq_false_iff_ne.mpr c5
   have c5b1 : (a1 != 0) = true := bne_iff_ne.mpr c5
   obtain rfl := Option.some.inj H
   go_enter Tryz.func14, Tryz.ntmps14
   go_wp2
   go_ret
   exact ⟨by first | rfl | (simp; done) | (simp [*]; done), by repeat (first | exact Drawn0.refl _ | apply Drawn0.step)⟩

/-! ### worldmintref01_Pick: function 45 -/
def worldmintref01_Pick.f (l0 : List Int) (a1 : Int) (a2 : Int) : Option (Int) := if a1 < 0 then (some 0) else (if a1 ≥ (l0.length : Int) then (some 0) else (if 0 ≤ a1 then (if a1 < (l0.length : Int) then ((worldmintref01_Around.f (rd l0 a1) a2).bind fun t183 => (some t183)) else (none)) else (none)))
set_option maxHeartbeats 8000000 in
set_option maxRecDepth 100000 in
theorem worldmintref01_Pick.calls (A0 : Option Addr) (c0 : Nat) (l0 : List Int) (a1 : Int) (a2 : Int) (r : Int) (w : World) (hr0 : Kd.C (Kd.int .i64) w A0 l0.length l0) (hc0 : l0.length ≤ c0) (h : worldmintref01_Pick.f l0 a1 a2 = some r) :
  Calls Tryz.prog 45 #[.slice A0 l0.length c0, .int .i64 a1, .int .i64 a2] w fun e w' => e = .returned (.int .i64 r) ∧ Drawn0 w w' := by
 have HR0 := am_ hr0
 have HC0 := am_ hc0
 clear hr0 hc0
 have H : (if a1 < 0 then (some 0) else (if a1 ≥ (l0.length : Int) then (some 0) else (if 0 ≤ a1 then (if a1 < (l0.length : Int) then ((worldmintref01_Around.f (rd l0 a1) a2).bind fun t183 => (some t183)) else (none)) else (none)))) = some r := h
 clear h
 by_cases c4 : a1 < 0
 ·rw [if_pos c4] at H
  have c4b0 : decide (a1 < 0) = true := decide_eq_true c4
  clear c4
  obtain rfl := Option.some.inj H
  go_enter Tryz.func45, Tryz.ntmps45
  go_wp2
  go_ret
  exact ⟨by first | rfl | (simp; done) | (simp [*]; done), by repeat (first | exact Drawn0.refl _ | apply Drawn0.step)⟩
 ·rw [if_neg c4] at H
  have c4b0 : decide (a1 < 0) = false := decide_eq_false c4
  clear c4
  by_cases c5 : a1 ≥ (l0.length : Int)
  ·rw [if_pos c5] at H
   have c5b0 : decide ((l0.length : Int) ≤ a1) = true := decide_eq_true c5
   clear c5
   obtain rfl := Option.some.inj H
   go_enter Tryz.func45, Tryz.ntmps45
   go_wp2
   go_ret
   exact ⟨by first | rfl | (simp; done) | (simp [*]; done), by repeat (first | exact Drawn0.refl _ | apply Drawn0.step)⟩
  ·rw [if_neg c5] at H
   have c5b0 : decide ((l0.length : Int) ≤ a1) = false := decide_eq_false c5
   clear c5
   by_cases c6 : 0 ≤ a1
   ·rw [if_pos c6] at H
    have c6b0 : decide (0 ≤ a1) = true := decide_eq_true c6
    clear c6
    by_cases c7 : a1 < (l0.length : Int)
    ·rw [if_pos c7] at H
     have c7b0 : decide (a1 < (l0.length : Int)) = true := decide_eq_true c7
     clear c7
     replace H := Option.bind_eq_some_iff.mp H
     obtain ⟨t183, A80, H⟩ := H
     replace H : (some t183) = some r := H
     have A8 := am_ A80
     clear A80
     obtain rfl := Option.some.inj H
     have p182 : 0 ≤ (a1 : Int) := of_decide_eq_true zq3
     have q182 : a1 < (l0.length : Int) := of_decide_eq_true zq3
     obtain ⟨ad182, e182, hx182_0⟩ := Kd.at_int HR0.out a1 p182 q182
     cases e182
     replace p182 := eq_true p182
     replace q182 := eq_true q182
     go_enter Tryz.func45, Tryz.ntmps45
     go_wp2_with (first | ((with_reducible refine gate_callee (f := 14) rfl ?_); refine goesL_ (some 20) rfl rfl Tryz.func14 (by kernel_rfl) rfl #[.int .i64 (rd l0 a1), .int .i64 a2] rfl zq4 ?_; (with_reducible refine (worldmintref01_Around.calls (rd l0 a1) a2 t183 _ A8.out).mono ?_); rintro e w' ⟨rfl, ⟨nd, rfl⟩⟩; refine ⟨_, rfl, ?_⟩))
     go_ret
     exact ⟨by first | rfl | (simp; done) | (simp [*]; done), by repeat (first | exact Drawn0.refl _ | apply Drawn0.step)⟩
    ·rw [if_neg c7] at H
     exact absurd H (by simp)
   ·rw [if_neg c6] at H
    exact absurd H (by simp)

end Go.Proofs.YtlceokefdihdkaaGreatDoor.X
