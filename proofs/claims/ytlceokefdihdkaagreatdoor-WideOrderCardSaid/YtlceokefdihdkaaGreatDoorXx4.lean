-- Written by a program of this session (xprint) out of the translation: Lean checks it.
import Derived.Test.YtlceokefdihdkaaGreatDoorXx0
import Derived.Test.YtlceokefdihdkaaGreatDoorXx1
import Derived.Test.YtlceokefdihdkaaGreatDoorXx3
namespace Go.Proofs.YtlceokefdihdkaaGreatDoor.X
open Go.RowKit Go.Proofs.YtlceokefdihdkaaGreatDoorW.PrintWords Go.Proofs.YtlceokefdihdkaaGreatDoorW.PrintLast Go.Proofs.YtlceokefdihdkaaGreatDoorW.PrintMore
attribute [local go_sem] max2_int min2_int max_two min_two max_three min_three max_four min_four   -- for this text's walks alone
set_option linter.unusedVariables false
set_option linter.unusedSimpArgs false

/-! ### worldmintref05_Number: function 13 -/
def worldmintref05_Number.l0 : Nat → List Int → Int → Int → Bool → List Int → Option (Bool × List Int)
 | 0, _, _, _, _, _ => none
 | k + 1, x0, x1, x6, x204000, x204001 => (worldmintref01_Pick.f x0 x1 5).bind fun t204 => (if x6 < (wrap64 (1 + t204)) then ((worldmintref01_Pick.f x0 (wrap64 ((wrap64 (x1 + 1)) + x6)) 1000000).bind fun t205 => ((worldmintref05_Power.f k (wrap64 ((wrap64 (32 * (Int.tmod t205 7))) + (wrap64 ((Int.tmod (wrap64 (Int.tdiv t205 7)) 5) * 8))))).bind fun bt206 => ((worldmintref05_Of.f k (wrap64 ((Int.tmod (wrap64 (Int.tdiv t205 35)) 9) - 4))).bind fun bt210 => ((worldmintref05_Mul.f k bt206.1 bt206.2 bt210.1 bt210.2).bind fun bt214 => ((worldmintref05_Of.f k (wrap64 ((Int.tmod (wrap64 (Int.tdiv t205 315)) 5) - 2))).bind fun bt219 => ((worldmintref05_Add.f k bt214.1 bt214.2 bt219.1 bt219.2).bind fun bt223 => ((worldmintref05_Add.f k x204000 x204001 bt223.1 bt223.2).bind fun bt227 => (worldmintref05_Number.l0 k x0 x1 (wrap64 (x6 + 1)) bt227.1 bt227.2)))))))) else (some (x204000, x204001)))
def worldmintref05_Number.f (k : Nat) (l0 : List Int) (a1 : Int) : Option (Bool × List Int) := worldmintref05_Number.l0 k l0 a1 0 false ([] : List Int)
theorem worldmintref05_Number.mono_l : ∀ k, (∀ y0 y1 y2 y3 y4, LeO (worldmintref05_Number.l0 k y0 y1 y2 y3 y4) (worldmintref05_Number.l0 (k + 1) y0 y1 y2 y3 y4))
 | 0 => fun _ _ _ _ _ r h => by simp [worldmintref05_Number.l0] at h
 | k + 1 => by
  have ih0 := worldmintref05_Number.mono_l k
  ·intro y0 y1 y2 y3 y4
   unfold worldmintref05_Number.l0
   repeat' first
   | (with_reducible exact ih0 _ _ _ _ _)
   | (with_reducible exact worldmintref05_Add.mono _ _ _ _ _)
   | (with_reducible exact worldmintref05_Mul.mono _ _ _ _ _)
   | (with_reducible exact worldmintref05_Of.mono _ _)
   | (with_reducible exact worldmintref05_Power.mono _ _)
   | (with_reducible exact LeO.refl _)
   | (with_reducible exact LeO.none _)
   | (with_reducible refine LeO.ite ?_ ?_)
   | (with_reducible refine LeO.bind ?_ (fun _ => ?_))
   | exact ih0 _ _ _ _ _
   | exact worldmintref05_Add.mono _ _ _ _ _
   | exact worldmintref05_Mul.mono _ _ _ _ _
   | exact worldmintref05_Of.mono _ _
   | exact worldmintref05_Power.mono _ _
   | exact LeO.none _
   | refine LeO.ite ?_ ?_
   | refine LeO.bind ?_ (fun _ => ?_)
theorem worldmintref05_Number.mono : ∀ a0 a1 k, LeO (worldmintref05_Number.f k a0 a1) (worldmintref05_Number.f (k + 1) a0 a1) := by
 intro a0 a1 k
 have ih0 := worldmintref05_Number.mono_l k
 unfold worldmintref05_Number.f
 repeat' first
   | (with_reducible exact ih0 _ _ _ _ _)
   | (with_reducible exact worldmintref05_Add.mono _ _ _ _ _)
   | (with_reducible exact worldmintref05_Mul.mono _ _ _ _ _)
   | (with_reducible exact worldmintref05_Of.mono _ _)
   | (with_reducible exact worldmintref05_Power.mono _ _)
   | (with_reducible exact LeO.refl _)
   | (with_reducible exact LeO.none _)
   | (with_reducible refine LeO.ite ?_ ?_)
   | (with_reducible refine LeO.bind ?_ (fun _ => ?_))
   | exact ih0 _ _ _ _ _
   | exact worldmintref05_Add.mono _ _ _ _ _
   | exact worldmintref05_Mul.mono _ _ _ _ _
   | exact worldmintref05_Of.mono _ _
   | exact worldmintref05_Power.mono _ _
   | exact LeO.none _
   | refine LeO.ite ?_ ?_
   | refine LeO.bind ?_ (fun _ => ?_)
def worldmintref05_Number.T7 : Bool × List (List Nat × List Nat) := (true, [([], []), ([], []), ([], []), ([2], [2]), ([3], [3]), ([4], [4]), ([5], [5]), ([1, 6, 6], [1, 6]), ([0, 7, 7], [0, 7]), ([8, 8, 0, 1, 2, 3, 4, 5, 6, 7, 8], [8])])
def worldmintref05_Number.B7 : List Nat := [0, 0, 0, 4, 12, 28, 60, 126, 255, 511]
theorem worldmintref05_Number.tab7 : rtab .any (opsOf Tryz.f13 7) = worldmintref05_Number.T7 := by kernel_rfl
theorem worldmintref05_Number.bits7 : waitsOk worldmintref05_Number.T7.2 worldmintref05_Number.B7 = true := by kernel_rfl
set_option maxHeartbeats 8000000 in
set_option maxRecDepth 100000 in
theorem worldmintref05_Number.calls (k : Nat) (A0 : Option Addr) (c0 : Nat) (l0 : List Int) (a1 : Int) (r1 : Bool) (r2 : List Int) (w : World) (hr0 : Kd.C (Kd.int .i64) w A0 l0.length l0) (hc0 : l0.length ≤ c0) (h : worldmintref05_Number.f k l0 a1 = some (r1, r2)) :
  Calls Tryz.prog 13 #[.slice A0 l0.length c0, .int .i64 a1] w fun e w' => ∃ v1_ : Value, e = .returned (.agg #[.bool r1, v1_]) ∧ Kd.V (Kd.int .i64) 3 w' w.heap.size (fun k_ => (w.heap.size ≤ k_)) v1_ r2 ∧ Below w.heap.size w w' := by
 have hu25 := Tryz.underlying25
 have HR0 := am_ hr0
 have HC0 := am_ hc0
 clear hr0 hc0
 have HB := am_ (Below.refl w.heap.size w)
 have H : (worldmintref05_Number.l0 k l0 a1 0 false ([] : List Int)) = some (r1, r2) := h
 clear h
 have H' := am_ H
 clear H
 go_enter Tryz.func13, Tryz.ntmps13
 go_wp2_with (first | ((with_reducible refine gate_dst (N := 4) rfl ?_); refine box_event ?hg (N := 4) ?hd (cs := #[.bool false, .slice none 0 0]) (t := 25) ?hr ?_; (case hd => rfl); (case hg => rfl); (case hr => exact zq0); intro gb202 hg w3 hbox hb; have n0_ := am_ (below_step zq2 hb); have n1_ := am_ (hbox); have n2_ := am_ ((by rw [hg]; exact (below_size zq2) : w.heap.size ≤ gb202)); clear HB; have HB := n0_; have BK202 := n1_; have GE202 := n2_; clear n0_ n1_ n2_; clear hb hbox hg) | ((with_reducible refine gate_dst (N := 5) rfl ?_); refine box_event ?hg (N := 5) ?hd (cs := #[.bool false, .slice none 0 0]) (t := 25) ?hr ?_; (case hd => rfl); (case hg => rfl); (case hr => exact zq0); intro gb203 hg w4 hbox hb; have n0_ := am_ (blk_below (g := gb202) (o := .cells #[.bool false, .slice none 0 0] 25 (0, 0)) (zq9 BK202.out) hb); have n1_ := am_ (below_step zq37 hb); have n2_ := am_ (hbox); have n3_ := am_ ((by rw [hg]; exact (below_size zq37) : w.heap.size ≤ gb203)); have n4_ := am_ ((by rw [hg]; exact Nat.ne_of_lt (blk_lt (g := gb202) (zq9 BK202.out)) : gb202 ≠ gb203)); have n5_ := am_ ((by rw [hg]; exact Nat.ne_of_gt (blk_lt (g := gb202) (zq9 BK202.out)) : gb203 ≠ gb202)); clear BK202 HB; have BK202 := n0_; have HB := n1_; have BK203 := n2_; have GE203 := n3_; have NB202_203 := n4_; have NB203_202 := n5_; clear n0_ n1_ n2_ n3_ n4_ n5_; clear hb hbox hg; have hnb5 := NB203_202.out; have hnc5 := NB202_203.out; have hcz6_0 : w4.cell? ⟨gb203, 0, none⟩ = some (.bool false) := (blk_cell BK203.out 0).trans rfl; have hcz6_1 : w4.cell? ⟨gb203, 1, none⟩ = some (.slice none 0 0) := (blk_cell BK203.out 1).trans rfl; have hfz6_0 := blk_frozen BK203.out 0; have hfz6_1 := blk_frozen BK203.out 1))
 try simp only [Act.put, List.setIfInBounds_toArray, List.set_cons_zero, List.set_cons_succ]
 go_loopg [6] k (fun kq v6 w' => ∃ (x6_1 : Int) (x204000_1 : Bool) (x204001_1 : List Int) (u204001 : Value), v6 = .int .i64 x6_1 ∧ Aside0 (worldmintref05_Number.l0 kq l0 a1 x6_1 x204000_1 x204001_1 = some (r1, r2)) ∧ Aside0 (kq ≤ k) ∧ Aside0 (Kd.V (Kd.int .i64) 3 w' w.heap.size (fun k_ => (w.heap.size ≤ k_) ∧ k_ ≠ gb202 ∧ k_ ≠ gb203) u204001 x204001_1) ∧ Aside0 (w'.heap[gb202]? = some (.cells #[.bool false, (.slice none 0 0)] 25 (0, 0))) ∧ Aside0 (w'.heap[gb203]? = some (.cells #[.bool x204000_1, u204001] 25 (0, 0))) ∧ Aside0 (Below w.heap.size w w'))
 case atStart => exact ⟨(0), (false), (([] : List Int)), (.slice none 0 0), zq5, H', ⟨Nat.le_refl _⟩, ⟨Kd.R_V (base := 0) zq38⟩, ⟨by (with_reducible repeat (first | refine blk_drewN ?_ _ | refine blk_drew ?_ | refine blk_alloc ?_ _)); refine blk_far ?_ NB202_203.out _; (with_reducible repeat (first | refine blk_drewN ?_ _ | refine blk_drew ?_ | refine blk_alloc ?_ _)); refine blk_far ?_ NB202_203.out _; (with_reducible repeat (first | refine blk_drewN ?_ _ | refine blk_drew ?_ | refine blk_alloc ?_ _)); exact BK202.out⟩, ⟨by (with_reducible repeat (first | refine blk_drewN ?_ _ | refine blk_drew ?_ | refine blk_alloc ?_ _)); refine blk_put (cs := #[.bool false, .slice none 0 0]) ?_ 1 _ rfl; (with_reducible repeat (first | refine blk_drewN ?_ _ | refine blk_drew ?_ | refine blk_alloc ?_ _)); refine blk_put (cs := #[.bool false, .slice none 0 0]) ?_ 0 _ rfl; (with_reducible repeat (first | refine blk_drewN ?_ _ | refine blk_drew ?_ | refine blk_alloc ?_ _)); exact BK203.out⟩, ⟨by repeat (first | (with_reducible first | exact HB.out | apply below_alloc | apply pw_below_drewN | apply below_drew1 | refine below_set ?_ GE202.out | refine below_set ?_ GE203.out) | exact HB.out)⟩⟩
 case round =>
  clear H'
  try clear c1
  try clear p2
  try clear c5
  try clear hcz6_0
  try clear hcz6_1
  try clear hfz6_0
  try clear hfz6_1
  obtain ⟨x6_1, x204000_1, x204001_1, u204001, rfl, HA, HK1, HO_204001, BK202, BK203, HB⟩ := hrel
  cases gk with
  | zero => exact absurd HA.out (by simp [worldmintref05_Number.l0])
  | succ k1 =>
   have H := HA.out
   clear HA
   simp only [worldmintref05_Number.l0] at H
   replace H := Option.bind_eq_some_iff.mp H
   obtain ⟨t204, A70, H⟩ := H
   replace H : (if x6_1 < (wrap64 (1 + t204)) then ((worldmintref01_Pick.f l0 (wrap64 ((wrap64 (a1 + 1)) + x6_1)) 1000000).bind fun t205 => ((worldmintref05_Power.f k1 (wrap64 ((wrap64 (32 * (Int.tmod t205 7))) + (wrap64 ((Int.tmod (wrap64 (Int.tdiv t205 7)) 5) * 8))))).bind fun bt206 => ((worldmintref05_Of.f k1 (wrap64 ((Int.tmod (wrap64 (Int.tdiv t205 35)) 9) - 4))).bind fun bt210 => ((worldmintref05_Mul.f k1 bt206.1 bt206.2 bt210.1 bt210.2).bind fun bt214 => ((worldmintref05_Of.f k1 (wrap64 ((Int.tmod (wrap64 (Int.tdiv t205 315)) 5) - 2))).bind fun bt219 => ((worldmintref05_Add.f k1 bt214.1 bt214.2 bt219.1 bt219.2).bind fun bt223 => ((worldmintref05_Add.f k1 x204000_1 x204001_1 bt223.1 bt223.2).bind fun bt227 => (worldmintref05_Number.l0 k1 l0 a1 (wrap64 (x6_1 + 1)) bt227.1 bt227.2)))))))) else (some (x204000_1, x204001_1))) = some (r1, r2) := H
   have A7 := am_ A70
   clear A70
   by_cases c8 : x6_1 < (wrap64 (1 + t204))
   ·rw [if_pos c8] at H
    have c8b0 : decide (x6_1 < (wrap64 (1 + t204))) = true := decide_eq_true c8
    clear c8
    replace H := Option.bind_eq_some_iff.mp H
    obtain ⟨t205, A90, H⟩ := H
    replace H : ((worldmintref05_Power.f k1 (wrap64 ((wrap64 (32 * (Int.tmod t205 7))) + (wrap64 ((Int.tmod (wrap64 (Int.tdiv t205 7)) 5) * 8))))).bind fun bt206 => ((worldmintref05_Of.f k1 (wrap64 ((Int.tmod (wrap64 (Int.tdiv t205 35)) 9) - 4))).bind fun bt210 => ((worldmintref05_Mul.f k1 bt206.1 bt206.2 bt210.1 bt210.2).bind fun bt214 => ((worldmintref05_Of.f k1 (wrap64 ((Int.tmod (wrap64 (Int.tdiv t205 315)) 5) - 2))).bind fun bt219 => ((worldmintref05_Add.f k1 bt214.1 bt214.2 bt219.1 bt219.2).bind fun bt223 => ((worldmintref05_Add.f k1 x204000_1 x204001_1 bt223.1 bt223.2).bind fun bt227 => (worldmintref05_Number.l0 k1 l0 a1 (wrap64 (x6_1 + 1)) bt227.1 bt227.2))))))) = some (r1, r2) := H
    have A9 := am_ A90
    clear A90
    replace H := Option.bind_eq_some_iff.mp H
    obtain ⟨⟨t206, t207⟩, A100, H⟩ := H
    replace H : ((worldmintref05_Of.f k1 (wrap64 ((Int.tmod (wrap64 (Int.tdiv t205 35)) 9) - 4))).bind fun bt210 => ((worldmintref05_Mul.f k1 t206 t207 bt210.1 bt210.2).bind fun bt214 => ((worldmintref05_Of.f k1 (wrap64 ((Int.tmod (wrap64 (Int.tdiv t205 315)) 5) - 2))).bind fun bt219 => ((worldmintref05_Add.f k1 bt214.1 bt214.2 bt219.1 bt219.2).bind fun bt223 => ((worldmintref05_Add.f k1 x204000_1 x204001_1 bt223.1 bt223.2).bind fun bt227 => (worldmintref05_Number.l0 k1 l0 a1 (wrap64 (x6_1 + 1)) bt227.1 bt227.2)))))) = some (r1, r2) := H
    have A10 := am_ A100
    clear A100
    replace H := Option.bind_eq_some_iff.mp H
    obtain ⟨⟨t210, t211⟩, A110, H⟩ := H
    replace H : ((worldmintref05_Mul.f k1 t206 t207 t210 t211).bind fun bt214 => ((worldmintref05_Of.f k1 (wrap64 ((Int.tmod (wrap64 (Int.tdiv t205 315)) 5) - 2))).bind fun bt219 => ((worldmintref05_Add.f k1 bt214.1 bt214.2 bt219.1 bt219.2).bind fun bt223 => ((worldmintref05_Add.f k1 x204000_1 x204001_1 bt223.1 bt223.2).bind fun bt227 => (worldmintref05_Number.l0 k1 l0 a1 (wrap64 (x6_1 + 1)) bt227.1 bt227.2))))) = some (r1, r2) := H
    have A11 := am_ A110
    clear A110
    replace H := Option.bind_eq_some_iff.mp H
    obtain ⟨⟨t214, t215⟩, A120, H⟩ := H
    replace H : ((worldmintref05_Of.f k1 (wrap64 ((Int.tmod (wrap64 (Int.tdiv t205 315)) 5) - 2))).bind fun bt219 => ((worldmintref05_Add.f k1 t214 t215 bt219.1 bt219.2).bind fun bt223 => ((worldmintref05_Add.f k1 x204000_1 x204001_1 bt223.1 bt223.2).bind fun bt227 => (worldmintref05_Number.l0 k1 l0 a1 (wrap64 (x6_1 + 1)) bt227.1 bt227.2)))) = some (r1, r2) := H
    have A12 := am_ A120
    clear A120
    replace H := Option.bind_eq_some_iff.mp H
    obtain ⟨⟨t219, t220⟩, A130, H⟩ := H
    replace H : ((worldmintref05_Add.f k1 t214 t215 t219 t220).bind fun bt223 => ((worldmintref05_Add.f k1 x204000_1 x204001_1 bt223.1 bt223.2).bind fun bt227 => (worldmintref05_Number.l0 k1 l0 a1 (wrap64 (x6_1 + 1)) bt227.1 bt227.2))) = some (r1, r2) := H
    have A13 := am_ A130
    clear A130
    replace H := Option.bind_eq_some_iff.mp H
    obtain ⟨⟨t223, t224⟩, A140, H⟩ := H
    replace H : ((worldmintref05_Add.f k1 x204000_1 x204001_1 t223 t224).bind fun bt227 => (worldmintref05_Number.l0 k1 l0 a1 (wrap64 (x6_1 + 1)) bt227.1 bt227.2)) = some (r1, r2) := H
    have A14 := am_ A140
    clear A140
    replace H := Option.bind_eq_some_iff.mp H
    obtain ⟨⟨t227, t228⟩, A150, H⟩ := H
    replace H : (worldmintref05_Number.l0 k1 l0 a1 (wrap64 (x6_1 + 1)) t227 t228) = some (r1, r2) := H
    have A15 := am_ A150
    clear A150
    have H' := am_ H
    clear H
    try go_wp2_with (first | ((with_reducible refine gate_callee (f := 45) rfl ?_); refine goesL_ (some 13) rfl rfl Tryz.func45 (by kernel_rfl) rfl #[.slice A0 l0.length c0, .int .i64 a1, .int .i64 5] rfl zq6 ?_; (with_reducible refine (worldmintref01_Pick.calls _ _ l0 a1 5 t204 _ ?side1 ?side2 A7.out).mono ?_); (case side1 => exact zq18); (case side2 => exact HC0.out); rintro e w' ⟨rfl, ⟨nd, rfl⟩⟩; refine ⟨_, rfl, ?_⟩; (try (rw [drewN_self wr]; generalize hq_ : World.drewN wr _ = wr; have n0_ : Aside0 (Kd.V (Kd.int .i64) 3 wr w.heap.size (fun k_ => (w.heap.size ≤ k_) ∧ k_ ≠ gb202 ∧ k_ ≠ gb203) u204001 x204001_1) := ⟨by rw [← hq_]; exact (zq1 HO_204001.out)⟩; have n1_ : Aside0 (wr.heap[gb202]? = some (.cells #[.bool false, .slice none 0 0] 25 (0, 0))) := ⟨by rw [← hq_]; exact (zq9 BK202.out)⟩; have n2_ : Aside0 (wr.heap[gb203]? = some (.cells #[.bool x204000_1, u204001] 25 (0, 0))) := ⟨by rw [← hq_]; exact (zq9 BK203.out)⟩; have n3_ : Aside0 (Below w.heap.size w wr) := ⟨by rw [← hq_]; exact zq39⟩; clear HO_204001 BK202 BK203 HB hq_; have HO_204001 := n0_; have BK202 := n1_; have BK203 := n2_; have HB := n3_; clear n0_ n1_ n2_ n3_; have hqzBK202_0 := (blk_cell BK202.out 0).trans (show _ = some _ from rfl); have hqfBK202_0 := blk_frozen BK202.out 0; have hqzBK202_1 := (blk_cell BK202.out 1).trans (show _ = some _ from rfl); have hqfBK202_1 := blk_frozen BK202.out 1; have hqzBK203_0 := (blk_cell BK203.out 0).trans (show _ = some _ from rfl); have hqfBK203_0 := blk_frozen BK203.out 0; have hqzBK203_1 := (blk_cell BK203.out 1).trans (show _ = some _ from rfl); have hqfBK203_1 := blk_frozen BK203.out 1))) | ((with_reducible refine gate_callee (f := 45) rfl ?_); refine goesL_ (some 23) rfl rfl Tryz.func45 (by kernel_rfl) rfl #[.slice A0 l0.length c0, .int .i64 (wrap64 ((wrap64 (a1 + 1)) + x6_1)), .int .i64 1000000] rfl zq6 ?_; (with_reducible refine (worldmintref01_Pick.calls _ _ l0 (wrap64 ((wrap64 (a1 + 1)) + x6_1)) 1000000 t205 _ ?side1 ?side2 A9.out).mono ?_); (case side1 => exact zq18); (case side2 => exact HC0.out); rintro e w' ⟨rfl, ⟨nd, rfl⟩⟩; refine ⟨_, rfl, ?_⟩; (try (rw [drewN_self wr]; generalize hq_ : World.drewN wr _ = wr; have n0_ : Aside0 (Kd.V (Kd.int .i64) 3 wr w.heap.size (fun k_ => (w.heap.size ≤ k_) ∧ k_ ≠ gb202 ∧ k_ ≠ gb203) u204001 x204001_1) := ⟨by rw [← hq_]; exact (zq1 HO_204001.out)⟩; have n1_ : Aside0 (wr.heap[gb202]? = some (.cells #[.bool false, .slice none 0 0] 25 (0, 0))) := ⟨by rw [← hq_]; exact (zq9 BK202.out)⟩; have n2_ : Aside0 (wr.heap[gb203]? = some (.cells #[.bool x204000_1, u204001] 25 (0, 0))) := ⟨by rw [← hq_]; exact (zq9 BK203.out)⟩; have n3_ : Aside0 (Below w.heap.size w wr) := ⟨by rw [← hq_]; exact zq39⟩; clear HO_204001 BK202 BK203 HB hq_; have HO_204001 := n0_; have BK202 := n1_; have BK203 := n2_; have HB := n3_; clear n0_ n1_ n2_ n3_; have hqzBK202_0 := (blk_cell BK202.out 0).trans (show _ = some _ from rfl); have hqfBK202_0 := blk_frozen BK202.out 0; have hqzBK202_1 := (blk_cell BK202.out 1).trans (show _ = some _ from rfl); have hqfBK202_1 := blk_frozen BK202.out 1; have hqzBK203_0 := (blk_cell BK203.out 0).trans (show _ = some _ from rfl); have hqfBK203_0 := blk_frozen BK203.out 0; have hqzBK203_1 := (blk_cell BK203.out 1).trans (show _ = some _ from rfl); have hqfBK203_1 := blk_frozen BK203.out 1))) | ((with_reducible refine gate_callee (f := 46) rfl ?_); refine goesL_ (some 32) rfl rfl Tryz.func46 (by kernel_rfl) rfl #[.int .i64 (wrap64 ((wrap64 (32 * (Int.tmod t205 7))) + (wrap64 ((Int.tmod (wrap64 (Int.tdiv t205 7)) 5) * 8))))] rfl zq6 ?_; (with_reducible refine (worldmintref05_Power.calls k1 (wrap64 ((wrap64 (32 * (Int.tmod t205 7))) + (wrap64 ((Int.tmod (wrap64 (Int.tdiv t205 7)) 5) * 8)))) t206 t207 _ A10.out).mono ?_); rintro e w16 ⟨v208, rfl, ho0, hb⟩; refine ⟨_, rfl, ?_⟩; replace HO_204001 := am_ (Kd.V_below (zq1 HO_204001.out) hb); have HO209 := am_ (Kd.V_lower (Kd.V_mono (ok' := fun k_ => (w.heap.size ≤ k_) ∧ k_ ≠ gb202 ∧ k_ ≠ gb203) ho0 (fun k_ hk_ => ⟨(Nat.le_trans (below_size zq39) hk_), (Kd.freshB (g := gb202) (o := .cells #[.bool false, .slice none 0 0] 25 (0, 0)) (zq9 BK202.out) k_ hk_), (Kd.freshB (g := gb203) (o := .cells #[.bool x204000_1, u204001] 25 (0, 0)) (zq9 BK203.out) k_ hk_)⟩)) (below_size zq39)); replace BK202 := am_ (blk_below (g := gb202) (o := .cells #[.bool false, .slice none 0 0] 25 (0, 0)) (zq9 BK202.out) hb); replace BK203 := am_ (blk_below (g := gb203) (o := .cells #[.bool x204000_1, u204001] 25 (0, 0)) (zq9 BK203.out) hb); replace HB := am_ (below_step zq39 hb); (try clear hb); (try clear ho0)) | ((with_reducible refine gate_callee (f := 23) rfl ?_); refine goesL_ (some 37) rfl rfl Tryz.func23 (by kernel_rfl) rfl #[.int .i64 (wrap64 ((Int.tmod (wrap64 (Int.tdiv t205 35)) 9) - 4))] rfl zq6 ?_; (with_reducible refine (worldmintref05_Of.calls k1 (wrap64 ((Int.tmod (wrap64 (Int.tdiv t205 35)) 9) - 4)) t210 t211 _ A11.out).mono ?_); rintro e w17 ⟨v212, rfl, ho0, hb⟩; refine ⟨_, rfl, ?_⟩; replace HO_204001 := am_ (Kd.V_below (zq1 HO_204001.out) hb); replace HO209 := am_ (Kd.V_below (zq1 HO209.out) hb); have HO213 := am_ (Kd.V_lower (Kd.V_mono (ok' := fun k_ => (w.heap.size ≤ k_) ∧ k_ ≠ gb202 ∧ k_ ≠ gb203) ho0 (fun k_ hk_ => ⟨(Nat.le_trans (below_size zq39) hk_), (Kd.freshB (g := gb202) (o := .cells #[.bool false, .slice none 0 0] 25 (0, 0)) (zq9 BK202.out) k_ hk_), (Kd.freshB (g := gb203) (o := .cells #[.bool x204000_1, u204001] 25 (0, 0)) (zq9 BK203.out) k_ hk_)⟩)) (below_size zq39)); replace BK202 := am_ (blk_below (g := gb202) (o := .cells #[.bool false, .slice none 0 0] 25 (0, 0)) (zq9 BK202.out) hb); replace BK203 := am_ (blk_below (g := gb203) (o := .cells #[.bool x204000_1, u204001] 25 (0, 0)) (zq9 BK203.out) hb); replace HB := am_ (below_step zq39 hb); (try clear hb); (try clear ho0); obtain ⟨Ao18, co18, eo18⟩ := Kd.V_slice HO209.out; subst eo18; obtain ⟨Ao19, co19, eo19⟩ := Kd.V_slice HO213.out; subst eo19) | ((with_reducible refine gate_callee (f := 28) rfl ?_); refine goesL_ (some 38) rfl rfl Tryz.func28 (by kernel_rfl) rfl #[.agg #[.bool t206, .slice Ao18 t207.length co18], .agg #[.bool t210, .slice Ao19 t211.length co19]] rfl zq6 ?_; (with_reducible refine (worldmintref05_Mul.calls k1 t206 _ _ t207 t210 _ _ t211 t214 t215 _ ?side1 ?side2 ?side3 ?side4 A12.out).mono ?_); (case side1 => exact (zq31 HO209.out)); (case side2 => exact (Kd.V_reads' HO209.out).2.1); (case side3 => exact (zq31 HO213.out)); (case side4 => exact (Kd.V_reads' HO213.out).2.1); rintro e w20 ⟨v216, rfl, ho0, hb⟩; refine ⟨_, rfl, ?_⟩; replace HO_204001 := am_ (Kd.V_below (zq1 HO_204001.out) hb); replace HO209 := am_ (Kd.V_below (zq1 HO209.out) hb); replace HO213 := am_ (Kd.V_below (zq1 HO213.out) hb); have HO217 := am_ (Kd.V_lower (Kd.V_mono (ok' := fun k_ => (w.heap.size ≤ k_) ∧ k_ ≠ gb202 ∧ k_ ≠ gb203) ho0 (fun k_ hk_ => ⟨(Nat.le_trans (below_size zq39) hk_), (Kd.freshB (g := gb202) (o := .cells #[.bool false, .slice none 0 0] 25 (0, 0)) (zq9 BK202.out) k_ hk_), (Kd.freshB (g := gb203) (o := .cells #[.bool x204000_1, u204001] 25 (0, 0)) (zq9 BK203.out) k_ hk_)⟩)) (below_size zq39)); replace BK202 := am_ (blk_below (g := gb202) (o := .cells #[.bool false, .slice none 0 0] 25 (0, 0)) (zq9 BK202.out) hb); replace BK203 := am_ (blk_below (g := gb203) (o := .cells #[.bool x204000_1, u204001] 25 (0, 0)) (zq9 BK203.out) hb); replace HB := am_ (below_step zq39 hb); (try clear hb); (try clear ho0)) | ((with_reducible refine gate_dst (N := 8) rfl ?_); refine box_event ?hg (N := 8) ?hd (cs := #[.bool false, .slice none 0 0]) (t := 25) ?hr ?_; (case hd => rfl); (case hg => rfl); (case hr => exact zq0); intro gb218 hg w21 hbox hb; have n0_ := am_ (Kd.V_below (Kd.V_elderB (zq1 HO_204001.out) gb218 (Nat.le_of_eq hg.symm)) hb); have n1_ := am_ (Kd.V_below (Kd.V_elderB (zq1 HO209.out) gb218 (Nat.le_of_eq hg.symm)) hb); have n2_ := am_ (Kd.V_below (Kd.V_elderB (zq1 HO213.out) gb218 (Nat.le_of_eq hg.symm)) hb); have n3_ := am_ (Kd.V_below (Kd.V_elderB (zq1 HO217.out) gb218 (Nat.le_of_eq hg.symm)) hb); have n4_ := am_ (blk_below (g := gb202) (o := .cells #[.bool false, .slice none 0 0] 25 (0, 0)) (zq9 BK202.out) hb); have n5_ := am_ (blk_below (g := gb203) (o := .cells #[.bool x204000_1, u204001] 25 (0, 0)) (zq9 BK203.out) hb); have n6_ := am_ (below_step zq39 hb); have n7_ := am_ (hbox); have n8_ := am_ ((by rw [hg]; exact (below_size zq39) : w.heap.size ≤ gb218)); have n9_ := am_ ((by rw [hg]; exact Nat.ne_of_lt (blk_lt (g := gb202) (zq9 BK202.out)) : gb202 ≠ gb218)); have n10_ := am_ ((by rw [hg]; exact Nat.ne_of_gt (blk_lt (g := gb202) (zq9 BK202.out)) : gb218 ≠ gb202)); have n11_ := am_ ((by rw [hg]; exact Nat.ne_of_lt (blk_lt (g := gb203) (zq9 BK203.out)) : gb203 ≠ gb218)); have n12_ := am_ ((by rw [hg]; exact Nat.ne_of_gt (blk_lt (g := gb203) (zq9 BK203.out)) : gb218 ≠ gb203)); clear HO_204001 HO209 HO213 HO217 BK202 BK203 HB; have HO_204001 := n0_; have HO209 := n1_; have HO213 := n2_; have HO217 := n3_; have BK202 := n4_; have BK203 := n5_; have HB := n6_; have BK218 := n7_; have GE218 := n8_; have NB202_218 := n9_; have NB218_202 := n10_; have NB203_218 := n11_; have NB218_203 := n12_; clear n0_ n1_ n2_ n3_ n4_ n5_ n6_ n7_ n8_ n9_ n10_ n11_ n12_; clear hb hbox hg; have hnb22 := NB218_202.out; have hnc22 := NB202_218.out; have hnb23 := NB218_203.out; have hnc23 := NB203_218.out; have hcz24_0 : w21.cell? ⟨gb218, 0, none⟩ = some (.bool false) := (blk_cell BK218.out 0).trans rfl; have hcz24_1 : w21.cell? ⟨gb218, 1, none⟩ = some (.slice none 0 0) := (blk_cell BK218.out 1).trans rfl; have hfz24_0 := blk_frozen BK218.out 0; have hfz24_1 := blk_frozen BK218.out 1; obtain ⟨Ao25, co25, eo25⟩ := Kd.V_slice HO217.out; subst eo25))
    have n0_ : Aside0 (Kd.V (Kd.int .i64) 3 ((w21.setCell ⟨gb218, 0, none⟩ (.bool t214)).setCell ⟨gb218, 1, none⟩ (.slice Ao25 t215.length co25)) w.heap.size (fun k_ => (w.heap.size ≤ k_) ∧ k_ ≠ gb202 ∧ k_ ≠ gb203 ∧ k_ ≠ gb218) u204001 x204001_1) := ⟨by (with_reducible repeat (first | apply Kd.V_alloc | apply Kd.V_drewN | apply Kd.V_drew)); exact Kd.V_mono (Kd.V_far (p := ⟨gb218, 1, none⟩) (Kd.V_far (p := ⟨gb218, 0, none⟩) (Kd.V_mono HO_204001.out (fun k_ hk => (⟨hk, hk.2⟩ : _ ∧ k_ ≠ gb218))) (fun _ hk => hk.2) (.bool t214)) (fun _ hk => hk.2) (.slice Ao25 t215.length co25)) (fun _ hk => ⟨hk.1.1.1, ⟨hk.1.1.2.1, ⟨hk.1.1.2.2, hk.1.2⟩⟩⟩)⟩
    have n1_ : Aside0 (Kd.V (Kd.int .i64) 3 ((w21.setCell ⟨gb218, 0, none⟩ (.bool t214)).setCell ⟨gb218, 1, none⟩ (.slice Ao25 t215.length co25)) w.heap.size (fun k_ => (w.heap.size ≤ k_) ∧ k_ ≠ gb202 ∧ k_ ≠ gb203 ∧ k_ ≠ gb218) (.slice Ao18 t207.length co18) t207) := ⟨by (with_reducible repeat (first | apply Kd.V_alloc | apply Kd.V_drewN | apply Kd.V_drew)); exact Kd.V_mono (Kd.V_far (p := ⟨gb218, 1, none⟩) (Kd.V_far (p := ⟨gb218, 0, none⟩) (Kd.V_mono HO209.out (fun k_ hk => (⟨hk, hk.2⟩ : _ ∧ k_ ≠ gb218))) (fun _ hk => hk.2) (.bool t214)) (fun _ hk => hk.2) (.slice Ao25 t215.length co25)) (fun _ hk => ⟨hk.1.1.1, ⟨hk.1.1.2.1, ⟨hk.1.1.2.2, hk.1.2⟩⟩⟩)⟩
    have n2_ : Aside0 (Kd.V (Kd.int .i64) 3 ((w21.setCell ⟨gb218, 0, none⟩ (.bool t214)).setCell ⟨gb218, 1, none⟩ (.slice Ao25 t215.length co25)) w.heap.size (fun k_ => (w.heap.size ≤ k_) ∧ k_ ≠ gb202 ∧ k_ ≠ gb203 ∧ k_ ≠ gb218) (.slice Ao19 t211.length co19) t211) := ⟨by (with_reducible repeat (first | apply Kd.V_alloc | apply Kd.V_drewN | apply Kd.V_drew)); exact Kd.V_mono (Kd.V_far (p := ⟨gb218, 1, none⟩) (Kd.V_far (p := ⟨gb218, 0, none⟩) (Kd.V_mono HO213.out (fun k_ hk => (⟨hk, hk.2⟩ : _ ∧ k_ ≠ gb218))) (fun _ hk => hk.2) (.bool t214)) (fun _ hk => hk.2) (.slice Ao25 t215.length co25)) (fun _ hk => ⟨hk.1.1.1, ⟨hk.1.1.2.1, ⟨hk.1.1.2.2, hk.1.2⟩⟩⟩)⟩
    have n3_ : Aside0 (Kd.V (Kd.int .i64) 3 ((w21.setCell ⟨gb218, 0, none⟩ (.bool t214)).setCell ⟨gb218, 1, none⟩ (.slice Ao25 t215.length co25)) w.heap.size (fun k_ => (w.heap.size ≤ k_) ∧ k_ ≠ gb202 ∧ k_ ≠ gb203 ∧ k_ ≠ gb218) (.slice Ao25 t215.length co25) t215) := ⟨by (with_reducible repeat (first | apply Kd.V_alloc | apply Kd.V_drewN | apply Kd.V_drew)); exact Kd.V_mono (Kd.V_far (p := ⟨gb218, 1, none⟩) (Kd.V_far (p := ⟨gb218, 0, none⟩) (Kd.V_mono HO217.out (fun k_ hk => (⟨hk, hk.2⟩ : _ ∧ k_ ≠ gb218))) (fun _ hk => hk.2) (.bool t214)) (fun _ hk => hk.2) (.slice Ao25 t215.length co25)) (fun _ hk => ⟨hk.1.1.1, ⟨hk.1.1.2.1, ⟨hk.1.1.2.2, hk.1.2⟩⟩⟩)⟩
    have n4_ : Aside0 (((w21.setCell ⟨gb218, 0, none⟩ (.bool t214)).setCell ⟨gb218, 1, none⟩ (.slice Ao25 t215.length co25)).heap[gb202]? = some (.cells #[.bool false, .slice none 0 0] 25 (0, 0))) := ⟨by (with_reducible repeat (first | refine blk_drewN ?_ _ | refine blk_drew ?_ | refine blk_alloc ?_ _)); refine blk_far ?_ NB202_218.out _; (with_reducible repeat (first | refine blk_drewN ?_ _ | refine blk_drew ?_ | refine blk_alloc ?_ _)); refine blk_far ?_ NB202_218.out _; (with_reducible repeat (first | refine blk_drewN ?_ _ | refine blk_drew ?_ | refine blk_alloc ?_ _)); exact BK202.out⟩
    have n5_ : Aside0 (((w21.setCell ⟨gb218, 0, none⟩ (.bool t214)).setCell ⟨gb218, 1, none⟩ (.slice Ao25 t215.length co25)).heap[gb203]? = some (.cells #[.bool x204000_1, u204001] 25 (0, 0))) := ⟨by (with_reducible repeat (first | refine blk_drewN ?_ _ | refine blk_drew ?_ | refine blk_alloc ?_ _)); refine blk_far ?_ NB203_218.out _; (with_reducible repeat (first | refine blk_drewN ?_ _ | refine blk_drew ?_ | refine blk_alloc ?_ _)); refine blk_far ?_ NB203_218.out _; (with_reducible repeat (first | refine blk_drewN ?_ _ | refine blk_drew ?_ | refine blk_alloc ?_ _)); exact BK203.out⟩
    have n6_ : Aside0 (((w21.setCell ⟨gb218, 0, none⟩ (.bool t214)).setCell ⟨gb218, 1, none⟩ (.slice Ao25 t215.length co25)).heap[gb218]? = some (.cells #[.bool t214, .slice Ao25 t215.length co25] 25 (0, 0))) := ⟨by (with_reducible repeat (first | refine blk_drewN ?_ _ | refine blk_drew ?_ | refine blk_alloc ?_ _)); refine blk_put (cs := #[.bool t214, .slice none 0 0]) ?_ 1 _ rfl; (with_reducible repeat (first | refine blk_drewN ?_ _ | refine blk_drew ?_ | refine blk_alloc ?_ _)); refine blk_put (cs := #[.bool false, .slice none 0 0]) ?_ 0 _ rfl; (with_reducible repeat (first | refine blk_drewN ?_ _ | refine blk_drew ?_ | refine blk_alloc ?_ _)); exact BK218.out⟩
    have n7_ : Aside0 (Below w.heap.size w ((w21.setCell ⟨gb218, 0, none⟩ (.bool t214)).setCell ⟨gb218, 1, none⟩ (.slice Ao25 t215.length co25))) := ⟨by repeat (first | (with_reducible first | exact HB.out | apply below_alloc | apply pw_below_drewN | apply below_drew1 | refine below_set ?_ GE202.out | refine below_set ?_ GE203.out | refine below_set ?_ GE218.out) | exact HB.out)⟩
    
    generalize ((w21.setCell ⟨gb218, 0, none⟩ (.bool t214)).setCell ⟨gb218, 1, none⟩ (.slice Ao25 t215.length co25)) = w26 at n0_ n1_ n2_ n3_ n4_ n5_ n6_ n7_ ⊢
    have HO_204001 := n0_; have HO209 := n1_; have HO213 := n2_; have HO217 := n3_; have BK202 := n4_; have BK203 := n5_; have BK218 := n6_; have HB := n7_; clear n0_ n1_ n2_ n3_ n4_ n5_ n6_ n7_; replace HO_204001 := am_ (Kd.V_drew HO_204001.out); replace HO209 := am_ (Kd.V_drew HO209.out); replace HO213 := am_ (Kd.V_drew HO213.out); replace HO217 := am_ (Kd.V_drew HO217.out); replace BK202 := am_ (blk_drew BK202.out); replace BK203 := am_ (blk_drew BK203.out); replace BK218 := am_ (blk_drew BK218.out); replace HB := am_ (below_drew1 HB.out)
    refine start_ (n := 10) (S := fun w' => w'.cell? ⟨gb203, 0, none⟩ = some (.bool x204000_1) ∧ w'.cell? ⟨gb203, 1, none⟩ = some (u204001) ∧ w'.cell? ⟨gb218, 0, none⟩ = some (.bool t214) ∧ w'.cell? ⟨gb218, 1, none⟩ = some (.slice Ao25 t215.length co25)) (ds := [9]) #[false, false, false, false, false, false, false, false, false, false] (by kernel_rfl) rfl rfl ⟨(blk_cell BK203.out 0).trans rfl, (blk_cell BK203.out 1).trans rfl, (blk_cell BK218.out 0).trans rfl, (blk_cell BK218.out 1).trans rfl⟩ (fun hHeld => ?_); refine with_tabW worldmintref05_Number.tab7 worldmintref05_Number.bits7 (fun HT_ HW_ => ?_)
    generalize w26.drew = w27 at HO_204001 HO209 HO213 HO217 BK202 BK203 BK218 HB hHeld ⊢
    refine pure_ (i := 2) (N := some 41) (v := ?_) (a' := ?_) #[false, false, true, false, false, false, false, false, false, false] rfl rfl (any_of HT_.out (by kernel_rfl)) (fun _ _ _ h => h) (Or.inl ⟨by rfl, ?_⟩) ?_ ?_
    rotate_left
    ·intro w'
     go_simp
     with_reducible rfl
    rotate_left
    ·exact za_
    refine pure_ (i := 3) (N := some 42) (v := ?_) (a' := ?_) #[false, false, true, true, false, false, false, false, false, false] rfl rfl (any_of HT_.out (by kernel_rfl)) (fun _ _ _ h => h) (Or.inl ⟨by rfl, ?_⟩) ?_ ?_
    rotate_left
    ·intro w'
     go_simp
     with_reducible rfl
    rotate_left
    ·exact za_
    refine pure_ (i := 4) (N := some 43) (v := ?_) (a' := ?_) #[false, false, true, true, true, false, false, false, false, false] rfl rfl (any_of HT_.out (by kernel_rfl)) (fun _ _ _ h => h) (Or.inl ⟨by rfl, ?_⟩) ?_ ?_
    rotate_left
    ·intro w'
     go_simp
     with_reducible rfl
    rotate_left
    ·exact za_
    refine pure_ (i := 5) (N := some 44) (v := ?_) (a' := ?_) #[false, false, true, true, true, true, false, false, false, false] rfl rfl (any_of HT_.out (by kernel_rfl)) (fun _ _ _ h => h) (Or.inl ⟨by rfl, ?_⟩) ?_ ?_
    rotate_left
    ·intro w'
     go_simp
     with_reducible rfl
    rotate_left
    ·exact za_
    refine take_ (i := 0) (N := some 39) (v := ?_) (a' := ?_) #[true, false, true, true, true, true, false, false, false, false] rfl rfl (take_ofW HT_.out HW_.out (by kernel_rfl)) (fun _ _ _ h => h) (Or.inl ⟨by rfl, ?_⟩) hHeld ?_ ?_
    rotate_left
    ·rintro w' ⟨s0, s1, s2, s3⟩
     go_simp
     with_reducible rfl
    rotate_left
    ·exact za_
    refine take_ (i := 1) (N := some 40) (v := ?_) (a' := ?_) #[true, true, true, true, true, true, false, false, false, false] rfl rfl (take_ofW HT_.out HW_.out (by kernel_rfl)) (fun _ _ _ h => h) (Or.inl ⟨by rfl, ?_⟩) hHeld ?_ ?_
    rotate_left
    ·rintro w' ⟨s0, s1, s2, s3⟩
     go_simp
     with_reducible rfl
    rotate_left
    ·exact za_
    refine one_ (i := 6) (N := some 45) #[true, true, true, true, true, true, true, false, false, false] rfl rfl (one_of HT_.out (by kernel_rfl)) (by decide) (fun K hK => ?_)
    refine goes_ Tryz.func23 (by kernel_rfl) rfl #[.int .i64 (wrap64 ((Int.tmod (wrap64 (Int.tdiv t205 315)) 5) - 2))] (by rfl) rfl rfl zq6 ?_
    with_reducible refine (worldmintref05_Of.calls k1 (wrap64 ((Int.tmod (wrap64 (Int.tdiv t205 315)) 5) - 2)) t219 t220 _ A13.out).mono ?_
    rintro e w28 ⟨v221, rfl, ho0, hb⟩
    refine ⟨_, rfl, ?_⟩
    replace HO_204001 := am_ (Kd.V_below (zq1 HO_204001.out) hb); replace HO217 := am_ (Kd.V_below (zq1 HO217.out) hb); have HO222 := am_ (Kd.V_lower (Kd.V_mono (ok' := fun k_ => (w.heap.size ≤ k_) ∧ k_ ≠ gb202 ∧ k_ ≠ gb203 ∧ k_ ≠ gb218) ho0 (fun k_ hk_ => ⟨(Nat.le_trans (below_size zq40) hk_), (Kd.freshB (g := gb202) (o := .cells #[.bool false, .slice none 0 0] 25 (0, 0)) (zq9 BK202.out) k_ hk_), (Kd.freshB (g := gb203) (o := .cells #[.bool x204000_1, u204001] 25 (0, 0)) (zq9 BK203.out) k_ hk_), (Kd.freshB (g := gb218) (o := .cells #[.bool t214, .slice Ao25 t215.length co25] 25 (0, 0)) (zq9 BK218.out) k_ hk_)⟩)) (below_size zq40)); replace BK202 := am_ (blk_below (g := gb202) (o := .cells #[.bool false, .slice none 0 0] 25 (0, 0)) (zq9 BK202.out) hb); replace BK203 := am_ (blk_below (g := gb203) (o := .cells #[.bool x204000_1, u204001] 25 (0, 0)) (zq9 BK203.out) hb); replace BK218 := am_ (blk_below (g := gb218) (o := .cells #[.bool t214, .slice Ao25 t215.length co25] 25 (0, 0)) (zq9 BK218.out) hb); replace HB := am_ (below_step zq40 hb); (try clear hb); (try clear ho0)
    obtain ⟨Ao29, co29, eo29⟩ := Kd.V_slice HO222.out
    (first | subst eo29 | (injection eo29 with f1_ f2_ f3_; have f4_ := f1_.symm; have f5_ := f3_.symm; clear f1_ f2_ f3_; subst f4_; subst f5_))
    refine hK.out _ _ ⟨(blk_cell BK203.out 0).trans rfl, (blk_cell BK203.out 1).trans rfl, (blk_cell BK218.out 0).trans rfl, (blk_cell BK218.out 1).trans rfl⟩ (fun hHeld => ?_)
    clear hK K
    refine norm_ (a' := ?_) ?_ ?_
    rotate_left
    ·show Act.put _ (some 45) _ = _
     exact za_
    refine one_ (i := 7) (N := some 46) #[true, true, true, true, true, true, true, true, false, false] rfl rfl (one_of HT_.out (by kernel_rfl)) (by decide) (fun K hK => ?_)
    refine goes_ Tryz.func29 (by kernel_rfl) rfl #[.agg #[.bool t214, .slice Ao25 t215.length co25], .agg #[.bool t219, .slice Ao29 t220.length co29]] (by rfl) rfl rfl zq6 ?_
    with_reducible refine (worldmintref05_Add.calls k1 t214 _ _ t215 t219 _ _ t220 t223 t224 _ ?side1 ?side2 ?side3 ?side4 A14.out).mono ?_
    (case side1 => exact (zq31 HO217.out))
    (case side2 => exact (Kd.V_reads' HO217.out).2.1)
    (case side3 => exact (zq31 HO222.out))
    (case side4 => exact (Kd.V_reads' HO222.out).2.1)
    rintro e w30 ⟨v225, rfl, ho0, hb⟩
    refine ⟨_, rfl, ?_⟩
    replace HO_204001 := am_ (Kd.V_below (zq1 HO_204001.out) hb); have HO226 := am_ (Kd.V_lower (Kd.V_mono (ok' := fun k_ => (w.heap.size ≤ k_) ∧ k_ ≠ gb202 ∧ k_ ≠ gb203 ∧ k_ ≠ gb218) ho0 (fun k_ hk_ => ⟨(Nat.le_trans (below_size zq40) hk_), (Kd.freshB (g := gb202) (o := .cells #[.bool false, .slice none 0 0] 25 (0, 0)) (zq9 BK202.out) k_ hk_), (Kd.freshB (g := gb203) (o := .cells #[.bool x204000_1, u204001] 25 (0, 0)) (zq9 BK203.out) k_ hk_), (Kd.freshB (g := gb218) (o := .cells #[.bool t214, .slice Ao25 t215.length co25] 25 (0, 0)) (zq9 BK218.out) k_ hk_)⟩)) (below_size zq40)); replace BK202 := am_ (blk_below (g := gb202) (o := .cells #[.bool false, .slice none 0 0] 25 (0, 0)) (zq9 BK202.out) hb); replace BK203 := am_ (blk_below (g := gb203) (o := .cells #[.bool x204000_1, u204001] 25 (0, 0)) (zq9 BK203.out) hb); replace BK218 := am_ (blk_below (g := gb218) (o := .cells #[.bool t214, .slice Ao25 t215.length co25] 25 (0, 0)) (zq9 BK218.out) hb); replace HB := am_ (below_step zq40 hb); (try clear hb); (try clear ho0)
    obtain ⟨Ao31, co31, eo31⟩ := Kd.V_slice HO_204001.out
    (first | subst eo31 | (injection eo31 with f1_ f2_ f3_; have f4_ := f1_.symm; have f5_ := f3_.symm; clear f1_ f2_ f3_; subst f4_; subst f5_))
    obtain ⟨Ao32, co32, eo32⟩ := Kd.V_slice HO226.out
    (first | subst eo32 | (injection eo32 with f1_ f2_ f3_; have f4_ := f1_.symm; have f5_ := f3_.symm; clear f1_ f2_ f3_; subst f4_; subst f5_))
    refine hK.out _ _ ⟨(blk_cell BK203.out 0).trans rfl, (blk_cell BK203.out 1).trans rfl, (blk_cell BK218.out 0).trans rfl, (blk_cell BK218.out 1).trans rfl⟩ (fun hHeld => ?_)
    clear hK K
    refine norm_ (a' := ?_) ?_ ?_
    rotate_left
    ·show Act.put _ (some 46) _ = _
     exact za_
    refine one_ (i := 8) (N := some 47) #[true, true, true, true, true, true, true, true, true, false] rfl rfl (one_of HT_.out (by kernel_rfl)) (by decide) (fun K hK => ?_)
    refine goes_ Tryz.func29 (by kernel_rfl) rfl #[.agg #[.bool x204000_1, .slice Ao31 x204001_1.length co31], .agg #[.bool t223, .slice Ao32 t224.length co32]] (by rfl) rfl rfl zq6 ?_
    with_reducible refine (worldmintref05_Add.calls k1 x204000_1 _ _ x204001_1 t223 _ _ t224 t227 t228 _ ?side1 ?side2 ?side3 ?side4 A15.out).mono ?_
    (case side1 => exact (zq31 HO_204001.out))
    (case side2 => exact (Kd.V_reads' HO_204001.out).2.1)
    (case side3 => exact (zq31 HO226.out))
    (case side4 => exact (Kd.V_reads' HO226.out).2.1)
    rintro e w33 ⟨v229, rfl, ho0, hb⟩
    refine ⟨_, rfl, ?_⟩
    replace HO_204001 := am_ (Kd.V_below (zq1 HO_204001.out) hb); have HO230 := am_ (Kd.V_lower (Kd.V_mono (ok' := fun k_ => (w.heap.size ≤ k_) ∧ k_ ≠ gb202 ∧ k_ ≠ gb203 ∧ k_ ≠ gb218) ho0 (fun k_ hk_ => ⟨(Nat.le_trans (below_size zq40) hk_), (Kd.freshB (g := gb202) (o := .cells #[.bool false, .slice none 0 0] 25 (0, 0)) (zq9 BK202.out) k_ hk_), (Kd.freshB (g := gb203) (o := .cells #[.bool x204000_1, .slice Ao31 x204001_1.length co31] 25 (0, 0)) (zq9 BK203.out) k_ hk_), (Kd.freshB (g := gb218) (o := .cells #[.bool t214, .slice Ao25 t215.length co25] 25 (0, 0)) (zq9 BK218.out) k_ hk_)⟩)) (below_size zq40)); replace BK202 := am_ (blk_below (g := gb202) (o := .cells #[.bool false, .slice none 0 0] 25 (0, 0)) (zq9 BK202.out) hb); replace BK203 := am_ (blk_below (g := gb203) (o := .cells #[.bool x204000_1, .slice Ao31 x204001_1.length co31] 25 (0, 0)) (zq9 BK203.out) hb); replace BK218 := am_ (blk_below (g := gb218) (o := .cells #[.bool t214, .slice Ao25 t215.length co25] 25 (0, 0)) (zq9 BK218.out) hb); replace HB := am_ (below_step zq40 hb); (try clear hb); (try clear ho0)
    obtain ⟨Ao35, co35, eo35⟩ := Kd.V_slice HO230.out
    (first | subst eo35 | (injection eo35 with f1_ f2_ f3_; have f4_ := f1_.symm; have f5_ := f3_.symm; clear f1_ f2_ f3_; subst f4_; subst f5_))
    refine hK.out _ _ ⟨(blk_cell BK203.out 0).trans rfl, (blk_cell BK203.out 1).trans rfl, (blk_cell BK218.out 0).trans rfl, (blk_cell BK218.out 1).trans rfl⟩ (fun hHeld => ?_)
    clear hK K
    refine norm_ (a' := ?_) ?_ ?_
    rotate_left
    ·show Act.put _ (some 47) _ = _
     exact za_
    refine last_ (i := 9) (N := none) #[true, true, true, true, true, true, true, true, true, true] rfl rfl (one_of HT_.out (by kernel_rfl)) (by decide) (fun K hK => ?_)
    have hs34 : w33.cell? ⟨gb203, 0, none⟩ = some (.bool x204000_1) := (blk_cell BK203.out 0).trans rfl
    have hfs34 := blk_frozen BK203.out 0
    have hns34_0 := NB202_203.out
    have hns34_2 := NB218_203.out
    have hms34_0 := NB203_202.out
    have hms34_2 := NB203_218.out
    have hs36 : w33.cell? ⟨gb203, 1, none⟩ = some (.slice Ao31 x204001_1.length co31) := (blk_cell BK203.out 1).trans rfl
    have hfs36 := blk_frozen BK203.out 1
    have hns36_0 := NB202_203.out
    have hns36_2 := NB218_203.out
    have hms36_0 := NB203_202.out
    have hms36_2 := NB203_218.out
    refine skip_ (w1 := ?_) (by rfl) rfl ?_ ?_
    rotate_left
    ·go_simp
     rfl
    refine hK.out _ _ ?_
    clear hK K
    refine done_ (done_of HT_.out (by kernel_rfl)) ?_
    try go_wp2
    go_roundg k1
    case measure => have := HK1.out; omega
    case rel => exact ⟨(wrap64 (x6_1 + 1)), (t227), (t228), (.slice Ao35 t228.length co35), zq5, H', ⟨by have := HK1.out; omega⟩, ⟨by (with_reducible repeat (first | apply Kd.V_alloc | apply Kd.V_drewN | apply Kd.V_drew)); exact Kd.V_mono (Kd.V_far (p := ⟨gb203, 1, none⟩) (Kd.V_far (p := ⟨gb203, 0, none⟩) (Kd.V_mono HO230.out (fun k_ hk => (⟨hk, hk.2.2.1⟩ : _ ∧ k_ ≠ gb203))) (fun _ hk => hk.2) (.bool t227)) (fun _ hk => hk.2) (.slice Ao35 t228.length co35)) (fun _ hk => ⟨hk.1.1, ⟨hk.1.2.1, hk.1.2.2.1⟩⟩)⟩, ⟨by (with_reducible repeat (first | refine blk_drewN ?_ _ | refine blk_drew ?_ | refine blk_alloc ?_ _)); refine blk_far ?_ NB202_203.out _; (with_reducible repeat (first | refine blk_drewN ?_ _ | refine blk_drew ?_ | refine blk_alloc ?_ _)); refine blk_far ?_ NB202_203.out _; (with_reducible repeat (first | refine blk_drewN ?_ _ | refine blk_drew ?_ | refine blk_alloc ?_ _)); exact BK202.out⟩, ⟨by (with_reducible repeat (first | refine blk_drewN ?_ _ | refine blk_drew ?_ | refine blk_alloc ?_ _)); refine blk_put (cs := #[.bool t227, .slice Ao31 x204001_1.length co31]) ?_ 1 _ rfl; (with_reducible repeat (first | refine blk_drewN ?_ _ | refine blk_drew ?_ | refine blk_alloc ?_ _)); refine blk_put (cs := #[.bool x204000_1, .slice Ao31 x204001_1.length co31]) ?_ 0 _ rfl; (with_reducible repeat (first | refine blk_drewN ?_ _ | refine blk_drew ?_ | refine blk_alloc ?_ _)); exact BK203.out⟩, ⟨by repeat (first | (with_reducible first | exact HB.out | apply below_alloc | apply pw_below_drewN | apply below_drew1 | refine below_set ?_ GE202.out | refine below_set ?_ GE203.out | refine below_set ?_ GE218.out) | exact HB.out)⟩⟩
   ·rw [if_neg c8] at H
    have c8b0 : decide (x6_1 < (wrap64 (1 + t204))) = false := decide_eq_false c8
    clear c8
    simp only [Option.some.injEq, Prod.mk.injEq] at H
    obtain ⟨rfl, rfl⟩ := H
    go_wp2_with (first | ((with_reducible refine gate_callee (f := 45) rfl ?_); refine goesL_ (some 13) rfl rfl Tryz.func45 (by kernel_rfl) rfl #[.slice A0 l0.length c0, .int .i64 a1, .int .i64 5] rfl zq6 ?_; (with_reducible refine (worldmintref01_Pick.calls _ _ l0 a1 5 t204 _ ?side1 ?side2 A7.out).mono ?_); (case side1 => exact zq18); (case side2 => exact HC0.out); rintro e w' ⟨rfl, ⟨nd, rfl⟩⟩; refine ⟨_, rfl, ?_⟩; (try (rw [drewN_self wr]; generalize hq_ : World.drewN wr _ = wr; have n0_ : Aside0 (Kd.V (Kd.int .i64) 3 wr w.heap.size (fun k_ => (w.heap.size ≤ k_) ∧ k_ ≠ gb202 ∧ k_ ≠ gb203) u204001 x204001_1) := ⟨by rw [← hq_]; exact (zq1 HO_204001.out)⟩; have n1_ : Aside0 (wr.heap[gb202]? = some (.cells #[.bool false, .slice none 0 0] 25 (0, 0))) := ⟨by rw [← hq_]; exact (zq9 BK202.out)⟩; have n2_ : Aside0 (wr.heap[gb203]? = some (.cells #[.bool x204000_1, u204001] 25 (0, 0))) := ⟨by rw [← hq_]; exact (zq9 BK203.out)⟩; have n3_ : Aside0 (Below w.heap.size w wr) := ⟨by rw [← hq_]; exact zq39⟩; clear HO_204001 BK202 BK203 HB hq_; have HO_204001 := n0_; have BK202 := n1_; have BK203 := n2_; have HB := n3_; clear n0_ n1_ n2_ n3_; have hqzBK202_0 := (blk_cell BK202.out 0).trans (show _ = some _ from rfl); have hqfBK202_0 := blk_frozen BK202.out 0; have hqzBK202_1 := (blk_cell BK202.out 1).trans (show _ = some _ from rfl); have hqfBK202_1 := blk_frozen BK202.out 1; have hqzBK203_0 := (blk_cell BK203.out 0).trans (show _ = some _ from rfl); have hqfBK203_0 := blk_frozen BK203.out 0; have hqzBK203_1 := (blk_cell BK203.out 1).trans (show _ = some _ from rfl); have hqfBK203_1 := blk_frozen BK203.out 1)); have hnb37 := NB203_202.out; have hnc37 := NB202_203.out; have hcz38_0 : wr.cell? ⟨gb203, 0, none⟩ = some (.bool x204000_1) := (blk_cell BK203.out 0).trans rfl; have hcz38_1 : wr.cell? ⟨gb203, 1, none⟩ = some (u204001) := (blk_cell BK203.out 1).trans rfl; have hfz38_0 := blk_frozen BK203.out 0; have hfz38_1 := blk_frozen BK203.out 1; have hcz39_0 : wr.cell? ⟨gb202, 0, none⟩ = some (.bool false) := (blk_cell BK202.out 0).trans rfl; have hcz39_1 : wr.cell? ⟨gb202, 1, none⟩ = some (.slice none 0 0) := (blk_cell BK202.out 1).trans rfl; have hfz39_0 := blk_frozen BK202.out 0; have hfz39_1 := blk_frozen BK202.out 1; obtain ⟨Ao40, co40, eo40⟩ := Kd.V_slice HO_204001.out; subst eo40))
    refine bodyPost_ret (results_cell_row rfl _ _ gb202 25 #[.bool x204000_1, .slice Ao40 x204001_1.length co40] (0, 0) _ rfl (by (with_reducible repeat (first | refine blk_drewN ?_ _ | refine blk_drew ?_ | refine blk_alloc ?_ _)); refine blk_put (cs := #[.bool x204000_1, .slice none 0 0]) ?_ 1 _ rfl; (with_reducible repeat (first | refine blk_drewN ?_ _ | refine blk_drew ?_ | refine blk_alloc ?_ _)); refine blk_put (cs := #[.bool false, .slice none 0 0]) ?_ 0 _ rfl; (with_reducible repeat (first | refine blk_drewN ?_ _ | refine blk_drew ?_ | refine blk_alloc ?_ _)); exact BK202.out) Tryz.underlying25 rfl (by kernel_rfl)) rfl ?_
    exact ⟨_, by first | rfl | (simp [errW_none, errW_some] <;> rfl) | (simp [*, errW_none, errW_some] <;> rfl), by (with_reducible repeat (first | apply Kd.V_alloc | apply Kd.V_drewN | apply Kd.V_drew)); exact Kd.V_mono (Kd.V_far (p := ⟨gb202, 1, none⟩) (Kd.V_far (p := ⟨gb202, 0, none⟩) (Kd.V_mono HO_204001.out (fun k_ hk => (⟨hk, hk.2.1⟩ : _ ∧ k_ ≠ gb202))) (fun _ hk => hk.2) (.bool x204000_1)) (fun _ hk => hk.2) (.slice Ao40 x204001_1.length co40)) (fun _ hk => hk.1.1), by repeat (first | (with_reducible first | exact HB.out | apply below_alloc | apply pw_below_drewN | apply below_drew1 | refine below_set ?_ GE202.out | refine below_set ?_ GE203.out) | exact HB.out)⟩

/-! ### worldmintref01_Decimal: function 44 -/
def worldmintref01_Decimal.l0 : Nat → Int → ByteArray → ByteArray → Int → Option (ByteArray)
 | 0, _, _, _, _ => none
 | k + 1, x0, x3, x4, x5 => if x5 = 0 then (if x0 < 0 then (if 1 + x4.size ≤ 9223372036854775807 then (some ((⟨#[45]⟩ : ByteArray) ++ x4)) else (none)) else (some x4)) else (if (Int.tmod x5 10) < 0 then (if 0 ≤ (wrap64 (-(Int.tmod x5 10))) then (if (wrap64 (-(Int.tmod x5 10))) ≤ (wrap64 ((wrap64 (-(Int.tmod x5 10))) + 1)) then (if (wrap64 ((wrap64 (-(Int.tmod x5 10))) + 1)) ≤ (x3.size : Int) then (if (x3.extract ((wrap64 (-(Int.tmod x5 10))) : Int).toNat ((wrap64 ((wrap64 (-(Int.tmod x5 10))) + 1)) : Int).toNat).size + x4.size ≤ 9223372036854775807 then (worldmintref01_Decimal.l0 k x0 x3 ((x3.extract ((wrap64 (-(Int.tmod x5 10))) : Int).toNat ((wrap64 ((wrap64 (-(Int.tmod x5 10))) + 1)) : Int).toNat) ++ x4) (wrap64 (Int.tdiv x5 10))) else (none)) else (none)) else (none)) else (none)) else (if 0 ≤ (Int.tmod x5 10) then (if (Int.tmod x5 10) ≤ (wrap64 ((Int.tmod x5 10) + 1)) then (if (wrap64 ((Int.tmod x5 10) + 1)) ≤ (x3.size : Int) then (if (x3.extract ((Int.tmod x5 10) : Int).toNat ((wrap64 ((Int.tmod x5 10) + 1)) : Int).toNat).size + x4.size ≤ 9223372036854775807 then (worldmintref01_Decimal.l0 k x0 x3 ((x3.extract ((Int.tmod x5 10) : Int).toNat ((wrap64 ((Int.tmod x5 10) + 1)) : Int).toNat) ++ x4) (wrap64 (Int.tdiv x5 10))) else (none)) else (none)) else (none)) else (none)))
def worldmintref01_Decimal.f (k : Nat) (a0 : Int) : Option (ByteArray) := if a0 = 0 then (some (⟨#[48]⟩ : ByteArray)) else (worldmintref01_Decimal.l0 k a0 (⟨#[48, 49, 50, 51, 52, 53, 54, 55, 56, 57]⟩ : ByteArray) (⟨#[]⟩ : ByteArray) a0)
theorem worldmintref01_Decimal.mono_l : ∀ k, (∀ y0 y1 y2 y3, LeO (worldmintref01_Decimal.l0 k y0 y1 y2 y3) (worldmintref01_Decimal.l0 (k + 1) y0 y1 y2 y3))
 | 0 => fun _ _ _ _ r h => by simp [worldmintref01_Decimal.l0] at h
 | k + 1 => by
  have ih0 := worldmintref01_Decimal.mono_l k
  ·intro y0 y1 y2 y3
   unfold worldmintref01_Decimal.l0
   repeat' first
   | (with_reducible exact ih0 _ _ _ _)
   | (with_reducible exact LeO.refl _)
   | (with_reducible exact LeO.none _)
   | (with_reducible refine LeO.ite ?_ ?_)
   | (with_reducible refine LeO.bind ?_ (fun _ => ?_))
   | exact ih0 _ _ _ _
   | exact LeO.none _
   | refine LeO.ite ?_ ?_
   | refine LeO.bind ?_ (fun _ => ?_)
theorem worldmintref01_Decimal.mono : ∀ a0 k, LeO (worldmintref01_Decimal.f k a0) (worldmintref01_Decimal.f (k + 1) a0) := by
 intro a0 k
 have ih0 := worldmintref01_Decimal.mono_l k
 unfold worldmintref01_Decimal.f
 repeat' first
   | (with_reducible exact ih0 _ _ _ _)
   | (with_reducible exact LeO.refl _)
   | (with_reducible exact LeO.none _)
   | (with_reducible refine LeO.ite ?_ ?_)
   | (with_reducible refine LeO.bind ?_ (fun _ => ?_))
   | exact ih0 _ _ _ _
   | exact LeO.none _
   | refine LeO.ite ?_ ?_
   | refine LeO.bind ?_ (fun _ => ?_)
set_option maxHeartbeats 8000000 in
set_option maxRecDepth 100000 in
theorem worldmintref01_Decimal.calls (k : Nat) (a0 : Int) (r : ByteArray) (w : World) (h : worldmintref01_Decimal.f k a0 = some r) :
  Calls Tryz.prog 44 #[.int .i64 a0] w fun e w' => e = .returned (.string r) ∧ Drawn0 w w' := by
 have H : (if a0 = 0 then (some (⟨#[48]⟩ : ByteArray)) else (worldmintref01_Decimal.l0 k a0 (⟨#[48, 49, 50, 51, 52, 53, 54, 55, 56, 57]⟩ : ByteArray) (⟨#[]⟩ : ByteArray) a0)) = some r := h
 clear h
 by_cases c2 : a0 = 0
 ·rw [if_pos c2] at H
  have c2b0 : (a0 == 0) = true := beq_iff_eq.mpr c2
  have c2b1 : (a0 != 0) = false := bne_eq_false_iff_eq.mpr c2
  clear c2
  obtain rfl := Option.some.inj H
  go_enter Tryz.func44, Tryz.ntmps44
  go_wp2
  go_ret
  exact ⟨by first | rfl | (simp; done) | (simp [*]; done), by repeat (first | exact Drawn0.refl _ | apply Drawn0.step)⟩
 ·rw [if_neg c2] at H
  have c2b0 : (a0 == 0) = false := beq_eq_false_iff_ne.mpr c2
  have c2b1 : (a0 != 0) = true := bne_iff_ne.mpr c2
  have H' := am_ H
  clear H
  go_enter Tryz.func44, Tryz.ntmps44
  go_wp2
  try simp only [Act.put, List.setIfInBounds_toArray, List.set_cons_zero, List.set_cons_succ]
  go_loopg [4, 5] k (fun kq v4 v5 w' => ∃ (x4_1 : ByteArray) (x5_1 : Int), v4 = .string x4_1 ∧ v5 = .int .i64 x5_1 ∧ Aside0 (worldmintref01_Decimal.l0 kq a0 (⟨#[48, 49, 50, 51, 52, 53, 54, 55, 56, 57]⟩ : ByteArray) x4_1 x5_1 = some r) ∧ Aside0 (kq ≤ k) ∧ Drawn0 w w')
  case atStart => exact ⟨((⟨#[]⟩ : ByteArray)), (a0), zq5, zq5, H', ⟨Nat.le_refl _⟩, by repeat (first | exact Drawn0.refl _ | apply Drawn0.step)⟩
  case round =>
   clear H'
   try clear c2
   try clear c2b0
   try clear c2b1
   try clear p2
   obtain ⟨x4_1, x5_1, rfl, rfl, HA, HK1, ⟨m1, rfl⟩⟩ := hrel
   cases gk with
   | zero => exact absurd HA.out (by simp [worldmintref01_Decimal.l0])
   | succ k1 =>
    have H := HA.out
    clear HA
    simp only [worldmintref01_Decimal.l0] at H
    by_cases c3 : x5_1 = 0
    ·rw [if_pos c3] at H
     have c3b0 : (x5_1 == 0) = true := beq_iff_eq.mpr c3
     have c3b1 : (x5_1 != 0) = false := bne_eq_false_iff_eq.mpr c3
     clear c3
     by_cases c4 : a0 < 0
     ·rw [if_pos c4] at H
      have c4b0 : decide (a0 < 0) = true := decide_eq_true c4
      clear c4
      by_cases c5 : 1 + x4_1.size ≤ 9223372036854775807
      ·rw [if_pos c5] at H
       have c5b0 := eq_true c5
       have c5b1 : decide (1 + x4_1.size ≤ 9223372036854775807) = true := decide_eq_true c5
       try have c5b2 : (9223372036854775807 < 1 + x4_1.size) = False := eq_false (Nat.not_lt.2 c5)
       obtain rfl := Option.some.inj H
       go_wp2
       go_ret
       exact ⟨by first | rfl | (simp; done) | (simp [*]; done), by repeat (first | exact Drawn0.refl _ | apply Drawn0.step)⟩
      ·rw [if_neg c5] at H
       exact absurd H (by simp)
     ·rw [if_neg c4] at H
      have c4b0 : decide (a0 < 0) = false := decide_eq_false c4
      clear c4
      obtain rfl := Option.some.inj H
      go_wp2
      go_ret
      exact ⟨by first | rfl | (simp; done) | (simp [*]; done), by repeat (first | exact Drawn0.refl _ | apply Drawn0.step)⟩
    ·rw [if_neg c3] at H
     have c3b0 : (x5_1 == 0) = false := beq_eq_false_iff_ne.mpr c3
     have c3b1 : (x5_1 != 0) = true := bne_iff_ne.mpr c3
     by_cases c6 : (Int.tmod x5_1 10) < 0
     ·rw [if_pos c6] at H
      have c6b0 : decide ((Int.tmod x5_1 10) < 0) = true := decide_eq_true c6
      clear c6
      obtain ⟨ji7, hji7⟩ : ∃ j_ : Int, (wrap64 (-(Int.tmod x5_1 10))) = j_ := ⟨_, rfl⟩
      replace H : (if 0 ≤ (ji7) then (if (ji7) ≤ (wrap64 ((ji7) + 1)) then (if (wrap64 ((ji7) + 1)) ≤ ((⟨#[48, 49, 50, 51, 52, 53, 54, 55, 56, 57]⟩ : ByteArray).size : Int) then (if ((⟨#[48, 49, 50, 51, 52, 53, 54, 55, 56, 57]⟩ : ByteArray).extract ((ji7) : Int).toNat ((wrap64 ((ji7) + 1)) : Int).toNat).size + x4_1.size ≤ 9223372036854775807 then (worldmintref01_Decimal.l0 k1 a0 (⟨#[48, 49, 50, 51, 52, 53, 54, 55, 56, 57]⟩ : ByteArray) (((⟨#[48, 49, 50, 51, 52, 53, 54, 55, 56, 57]⟩ : ByteArray).extract ((ji7) : Int).toNat ((wrap64 ((ji7) + 1)) : Int).toNat) ++ x4_1) (wrap64 (Int.tdiv x5_1 10))) else (none)) else (none)) else (none)) else (none)) = some r := by first | (rw [hji7] at H; exact H) | (simp only [hji7] at H ⊢; exact H)
      have hji7w : (IntKind.i64.wrap (-(Int.tmod x5_1 10))) = ji7 := (i64_w _).trans hji7
      by_cases c8 : 0 ≤ (ji7)
      ·rw [if_pos c8] at H
       have c8b0 := eq_true c8
       have c8b1 : decide (0 ≤ (ji7)) = true := decide_eq_true c8
       clear c8
       by_cases c9 : (ji7) ≤ (wrap64 ((ji7) + 1))
       ·rw [if_pos c9] at H
        have c9b0 := eq_true c9
        have c9b1 : decide ((ji7) ≤ (wrap64 ((ji7) + 1))) = true := decide_eq_true c9
        by_cases c10 : (wrap64 ((ji7) + 1)) ≤ ((⟨#[48, 49, 50, 51, 52, 53, 54, 55, 56, 57]⟩ : ByteArray).size : Int)
        ·rw [if_pos c10] at H
         have c10b0 := eq_true c10
         have c10b1 : decide ((wrap64 ((ji7) + 1)) ≤ ((⟨#[48, 49, 50, 51, 52, 53, 54, 55, 56, 57]⟩ : ByteArray).size : Int)) = true := decide_eq_true c10
         (try (have c10y0 : ((wrap64 ((ji7) + 1)) ≤ (10 : Int)) = True := eq_true c10))
         (try (have c10y1 : decide ((wrap64 ((ji7) + 1)) ≤ (10 : Int)) = true := decide_eq_true c10))
         by_cases c11 : ((⟨#[48, 49, 50, 51, 52, 53, 54, 55, 56, 57]⟩ : ByteArray).extract ((ji7) : Int).toNat ((wrap64 ((ji7) + 1)) : Int).toNat).size + x4_1.size ≤ 9223372036854775807
         ·rw [if_pos c11] at H
          have c11b0 := eq_true c11
          have c11b1 : decide (((⟨#[48, 49, 50, 51, 52, 53, 54, 55, 56, 57]⟩ : ByteArray).extract ((ji7) : Int).toNat ((wrap64 ((ji7) + 1)) : Int).toNat).size + x4_1.size ≤ 9223372036854775807) = true := decide_eq_true c11
          try have c11b2 : (9223372036854775807 < ((⟨#[48, 49, 50, 51, 52, 53, 54, 55, 56, 57]⟩ : ByteArray).extract ((ji7) : Int).toNat ((wrap64 ((ji7) + 1)) : Int).toNat).size + x4_1.size) = False := eq_false (Nat.not_lt.2 c11)
          have H' := am_ H
          clear H
          go_wp2
          go_roundg k1
          case measure => have := HK1.out; omega
          case rel => exact ⟨(((⟨#[48, 49, 50, 51, 52, 53, 54, 55, 56, 57]⟩ : ByteArray).extract ((ji7) : Int).toNat ((wrap64 ((ji7) + 1)) : Int).toNat) ++ x4_1), (wrap64 (Int.tdiv x5_1 10)), (by first | rfl | (simp; done) | (simp only [← hji7] <;> (first | rfl | simp)) | (simp [*]; done)), zq5, H', ⟨by have := HK1.out; omega⟩, by repeat (first | exact Drawn0.refl _ | apply Drawn0.step)⟩
         ·rw [if_neg c11] at H
          exact absurd H (by simp)
        ·rw [if_neg c10] at H
         exact absurd H (by simp)
       ·rw [if_neg c9] at H
        exact absurd H (by simp)
      ·rw [if_neg c8] at H
       exact absurd H (by simp)
     ·rw [if_neg c6] at H
      have c6b0 : decide ((Int.tmod x5_1 10) < 0) = false := decide_eq_false c6
      clear c6
      obtain ⟨ji12, hji12⟩ : ∃ j_ : Int, (Int.tmod x5_1 10) = j_ := ⟨_, rfl⟩
      replace H : (if 0 ≤ (ji12) then (if (ji12) ≤ (wrap64 ((ji12) + 1)) then (if (wrap64 ((ji12) + 1)) ≤ ((⟨#[48, 49, 50, 51, 52, 53, 54, 55, 56, 57]⟩ : ByteArray).size : Int) then (if ((⟨#[48, 49, 50, 51, 52, 53, 54, 55, 56, 57]⟩ : ByteArray).extract ((ji12) : Int).toNat ((wrap64 ((ji12) + 1)) : Int).toNat).size + x4_1.size ≤ 9223372036854775807 then (worldmintref01_Decimal.l0 k1 a0 (⟨#[48, 49, 50, 51, 52, 53, 54, 55, 56, 57]⟩ : ByteArray) (((⟨#[48, 49, 50, 51, 52, 53, 54, 55, 56, 57]⟩ : ByteArray).extract ((ji12) : Int).toNat ((wrap64 ((ji12) + 1)) : Int).toNat) ++ x4_1) (wrap64 (Int.tdiv x5_1 10))) else (none)) else (none)) else (none)) else (none)) = some r := by first | (rw [hji12] at H; exact H) | (simp only [hji12] at H ⊢; exact H)
      (try rw [hji12] at c6b0)
      by_cases c13 : 0 ≤ (ji12)
      ·rw [if_pos c13] at H
       have c13b0 := eq_true c13
       have c13b1 : decide (0 ≤ (ji12)) = true := decide_eq_true c13
       clear c13
       by_cases c14 : (ji12) ≤ (wrap64 ((ji12) + 1))
       ·rw [if_pos c14] at H
        have c14b0 := eq_true c14
        have c14b1 : decide ((ji12) ≤ (wrap64 ((ji12) + 1))) = true := decide_eq_true c14
        by_cases c15 : (wrap64 ((ji12) + 1)) ≤ ((⟨#[48, 49, 50, 51, 52, 53, 54, 55, 56, 57]⟩ : ByteArray).size : Int)
        ·rw [if_pos c15] at H
         have c15b0 := eq_true c15
         have c15b1 : decide ((wrap64 ((ji12) + 1)) ≤ ((⟨#[48, 49, 50, 51, 52, 53, 54, 55, 56, 57]⟩ : ByteArray).size : Int)) = true := decide_eq_true c15
         (try (have c15y0 : ((wrap64 ((ji12) + 1)) ≤ (10 : Int)) = True := eq_true c15))
         (try (have c15y1 : decide ((wrap64 ((ji12) + 1)) ≤ (10 : Int)) = true := decide_eq_true c15))
         by_cases c16 : ((⟨#[48, 49, 50, 51, 52, 53, 54, 55, 56, 57]⟩ : ByteArray).extract ((ji12) : Int).toNat ((wrap64 ((ji12) + 1)) : Int).toNat).size + x4_1.size ≤ 9223372036854775807
         ·rw [if_pos c16] at H
          have c16b0 := eq_true c16
          have c16b1 : decide (((⟨#[48, 49, 50, 51, 52, 53, 54, 55, 56, 57]⟩ : ByteArray).extract ((ji12) : Int).toNat ((wrap64 ((ji12) + 1)) : Int).toNat).size + x4_1.size ≤ 9223372036854775807) = true := decide_eq_true c16
          try have c16b2 : (9223372036854775807 < ((⟨#[48, 49, 50, 51, 52, 53, 54, 55, 56, 57]⟩ : ByteArray).extract ((ji12) : Int).toNat ((wrap64 ((ji12) + 1)) : Int).toNat).size + x4_1.size) = False := eq_false (Nat.not_lt.2 c16)
          have H' := am_ H
          clear H
          go_wp2
          go_roundg k1
          case measure => have := HK1.out; omega
          case rel => exact ⟨(((⟨#[48, 49, 50, 51, 52, 53, 54, 55, 56, 57]⟩ : ByteArray).extract ((ji12) : Int).toNat ((wrap64 ((ji12) + 1)) : Int).toNat) ++ x4_1), (wrap64 (Int.tdiv x5_1 10)), (by first | rfl | (simp; done) | (simp only [← hji12] <;> (first | rfl | simp)) | (simp [*]; done)), zq5, H', ⟨by have := HK1.out; omega⟩, by repeat (first | exact Drawn0.refl _ | apply Drawn0.step)⟩
         ·rw [if_neg c16] at H
          exact absurd H (by simp)
        ·rw [if_neg c15] at H
         exact absurd H (by simp)
       ·rw [if_neg c14] at H
        exact absurd H (by simp)
      ·rw [if_neg c13] at H
       exact absurd H (by simp)

end Go.Proofs.YtlceokefdihdkaaGreatDoor.X
