-- Written by a program of this session (xprint) out of the translation: Lean checks it.
import Derived.Test.YtmahdomlmidfdaaDoorXx0
import Derived.Test.YtmahdomlmidfdaaDoorXx1
import Derived.Test.YtmahdomlmidfdaaDoorXx2
import Derived.Test.YtmahdomlmidfdaaDoorExn
namespace Go.Proofs.YtmahdomlmidfdaaDoor.X
open Go.RowKit Go.Proofs.YtmahdomlmidfdaaDoorW.PrintWords Go.Proofs.YtmahdomlmidfdaaDoorW.PrintLast Go.Proofs.YtmahdomlmidfdaaDoorW.PrintMore
attribute [local go_sem] max2_int min2_int max_two min_two max_three min_three max_four min_four   -- for this text's walks alone
set_option linter.unusedVariables false
set_option linter.unusedSimpArgs false

/-! ### worldmintlaw31_TaxSlope: function 3 -/
mutual
def worldmintlaw31_TaxSlope.j0 : Nat → Int → Int → Int → Int → Bool → ByteArray → List (S37) → Option (Bool)
  | 0, _, _, _, _, _, _, _ => none
  | k + 1, x2, x8, x9, x11, x60, x201000, x201001 => if x60 = true then (some false) else ((tax_Due.f k x201000 x201001 x11).bind fun bt206 => (if bt206.2 = 0 then (worldmintlaw31_TaxSlope.j1 k x2 x8 x9 ((wrap64 (x11 - bt206.1)) != (wrap64 (x8 - x9))) x201000 x201001) else (worldmintlaw31_TaxSlope.j1 k x2 x8 x9 true x201000 x201001)))
def worldmintlaw31_TaxSlope.j1 : Nat → Int → Int → Int → Bool → ByteArray → List (S37) → Option (Bool)
  | 0, _, _, _, _, _, _ => none
  | k + 1, x2, x8, x9, x77, x201000, x201001 => if x77 = true then (some false) else (if x8 > 0 then ((tax_Due.f k x201000 x201001 (wrap64 (x8 - 1))).bind fun bt208 => (if bt208.2 = 0 then (if (wrap64 (x9 - bt208.1)) < 0 then (some false) else (if (wrap64 (x9 - bt208.1)) > 1 then (some false) else (worldmintlaw31_TaxSlope.j2 k x2 x8 x9 x201000 x201001))) else (some false))) else (worldmintlaw31_TaxSlope.j2 k x2 x8 x9 x201000 x201001))
def worldmintlaw31_TaxSlope.j2 : Nat → Int → Int → Int → ByteArray → List (S37) → Option (Bool)
  | 0, _, _, _, _, _ => none
  | k + 1, x2, x8, x9, x201000, x201001 => (worldmintref01_Around.f x2 (wrap64 (x8 + 1))).bind fun t210 => ((tax_Due.f k x201000 x201001 t210).bind fun bt211 => ((tax_More.f k x201000 x201001 t210 (wrap64 (x8 - t210))).bind fun bt213 => (if bt211.2 = 0 then (if bt213.2 = 0 then (if (wrap64 (bt211.1 + bt213.1)) = x9 then ((worldmintlaw31_lives.f k).bind fun t215 => (some t215)) else (some false)) else (some false)) else (some false))))
end
def worldmintlaw31_TaxSlope.f (k : Nat) (l0 : List Int) (a1 : Int) (a2 : Int) : Option (Bool) := (worldmintref31_Tax.f k l0).bind fun bt196 => ((worldmintref31_Sum.f bt196.1 bt196.2 a1).bind fun t201 => ((tax_Due.f k bt196.1 bt196.2 t201).bind fun bt202 => ((tax_Net.f bt196.1 bt196.2 (wrap64 (t201 - bt202.1))).bind fun bt204 => (if bt202.2 = 0 then (if bt204.2 = 0 then (if bt202.1 < 0 then (worldmintlaw31_TaxSlope.j0 k a2 t201 bt202.1 bt204.1 true bt196.1 bt196.2) else (if bt202.1 > t201 then (worldmintlaw31_TaxSlope.j0 k a2 t201 bt202.1 bt204.1 true bt196.1 bt196.2) else (worldmintlaw31_TaxSlope.j0 k a2 t201 bt202.1 bt204.1 (decide (bt204.1 < t201)) bt196.1 bt196.2))) else (worldmintlaw31_TaxSlope.j0 k a2 t201 bt202.1 bt204.1 true bt196.1 bt196.2)) else (worldmintlaw31_TaxSlope.j0 k a2 t201 bt202.1 bt204.1 true bt196.1 bt196.2)))))
theorem worldmintlaw31_TaxSlope.mono_l : ∀ k, (∀ y0 y1 y2 y3 y4 y5 y6, LeO (worldmintlaw31_TaxSlope.j0 k y0 y1 y2 y3 y4 y5 y6) (worldmintlaw31_TaxSlope.j0 (k + 1) y0 y1 y2 y3 y4 y5 y6)) ∧ (∀ y0 y1 y2 y3 y4 y5, LeO (worldmintlaw31_TaxSlope.j1 k y0 y1 y2 y3 y4 y5) (worldmintlaw31_TaxSlope.j1 (k + 1) y0 y1 y2 y3 y4 y5)) ∧ (∀ y0 y1 y2 y3 y4, LeO (worldmintlaw31_TaxSlope.j2 k y0 y1 y2 y3 y4) (worldmintlaw31_TaxSlope.j2 (k + 1) y0 y1 y2 y3 y4))
  | 0 => ⟨fun _ _ _ _ _ _ _ r h => by simp [worldmintlaw31_TaxSlope.j0] at h, fun _ _ _ _ _ _ r h => by simp [worldmintlaw31_TaxSlope.j1] at h, fun _ _ _ _ _ r h => by simp [worldmintlaw31_TaxSlope.j2] at h⟩
  | k + 1 => by
    obtain ⟨ih0, ih1, ih2⟩ := worldmintlaw31_TaxSlope.mono_l k
    refine ⟨?_, ?_, ?_⟩
    · intro y0 y1 y2 y3 y4 y5 y6
      unfold worldmintlaw31_TaxSlope.j0
      repeat' first
      | (with_reducible exact ih0 _ _ _ _ _ _ _)
      | (with_reducible exact ih1 _ _ _ _ _ _)
      | (with_reducible exact ih2 _ _ _ _ _)
      | (with_reducible exact tax_Due.mono _ _ _ _)
      | (with_reducible exact tax_More.mono _ _ _ _ _)
      | (with_reducible exact worldmintlaw31_lives.mono _)
      | (with_reducible exact worldmintref31_Tax.mono _ _)
      | (with_reducible exact LeO.refl _)
      | (with_reducible exact LeO.none _)
      | (with_reducible refine LeO.ite ?_ ?_)
      | (with_reducible refine LeO.bind ?_ (fun _ => ?_))
      | exact ih0 _ _ _ _ _ _ _
      | exact ih1 _ _ _ _ _ _
      | exact ih2 _ _ _ _ _
      | exact tax_Due.mono _ _ _ _
      | exact tax_More.mono _ _ _ _ _
      | exact worldmintlaw31_lives.mono _
      | exact worldmintref31_Tax.mono _ _
      | exact LeO.none _
      | refine LeO.ite ?_ ?_
      | refine LeO.bind ?_ (fun _ => ?_)
    · intro y0 y1 y2 y3 y4 y5
      unfold worldmintlaw31_TaxSlope.j1
      repeat' first
      | (with_reducible exact ih0 _ _ _ _ _ _ _)
      | (with_reducible exact ih1 _ _ _ _ _ _)
      | (with_reducible exact ih2 _ _ _ _ _)
      | (with_reducible exact tax_Due.mono _ _ _ _)
      | (with_reducible exact tax_More.mono _ _ _ _ _)
      | (with_reducible exact worldmintlaw31_lives.mono _)
      | (with_reducible exact worldmintref31_Tax.mono _ _)
      | (with_reducible exact LeO.refl _)
      | (with_reducible exact LeO.none _)
      | (with_reducible refine LeO.ite ?_ ?_)
      | (with_reducible refine LeO.bind ?_ (fun _ => ?_))
      | exact ih0 _ _ _ _ _ _ _
      | exact ih1 _ _ _ _ _ _
      | exact ih2 _ _ _ _ _
      | exact tax_Due.mono _ _ _ _
      | exact tax_More.mono _ _ _ _ _
      | exact worldmintlaw31_lives.mono _
      | exact worldmintref31_Tax.mono _ _
      | exact LeO.none _
      | refine LeO.ite ?_ ?_
      | refine LeO.bind ?_ (fun _ => ?_)
    · intro y0 y1 y2 y3 y4
      unfold worldmintlaw31_TaxSlope.j2
      repeat' first
      | (with_reducible exact ih0 _ _ _ _ _ _ _)
      | (with_reducible exact ih1 _ _ _ _ _ _)
      | (with_reducible exact ih2 _ _ _ _ _)
      | (with_reducible exact tax_Due.mono _ _ _ _)
      | (with_reducible exact tax_More.mono _ _ _ _ _)
      | (with_reducible exact worldmintlaw31_lives.mono _)
      | (with_reducible exact worldmintref31_Tax.mono _ _)
      | (with_reducible exact LeO.refl _)
      | (with_reducible exact LeO.none _)
      | (with_reducible refine LeO.ite ?_ ?_)
      | (with_reducible refine LeO.bind ?_ (fun _ => ?_))
      | exact ih0 _ _ _ _ _ _ _
      | exact ih1 _ _ _ _ _ _
      | exact ih2 _ _ _ _ _
      | exact tax_Due.mono _ _ _ _
      | exact tax_More.mono _ _ _ _ _
      | exact worldmintlaw31_lives.mono _
      | exact worldmintref31_Tax.mono _ _
      | exact LeO.none _
      | refine LeO.ite ?_ ?_
      | refine LeO.bind ?_ (fun _ => ?_)
theorem worldmintlaw31_TaxSlope.mono : ∀ a0 a1 a2 k, LeO (worldmintlaw31_TaxSlope.f k a0 a1 a2) (worldmintlaw31_TaxSlope.f (k + 1) a0 a1 a2) := by
  intro a0 a1 a2 k
  obtain ⟨ih0, ih1, ih2⟩ := worldmintlaw31_TaxSlope.mono_l k
  unfold worldmintlaw31_TaxSlope.f
  repeat' first
      | (with_reducible exact ih0 _ _ _ _ _ _ _)
      | (with_reducible exact ih1 _ _ _ _ _ _)
      | (with_reducible exact ih2 _ _ _ _ _)
      | (with_reducible exact tax_Due.mono _ _ _ _)
      | (with_reducible exact tax_More.mono _ _ _ _ _)
      | (with_reducible exact worldmintlaw31_lives.mono _)
      | (with_reducible exact worldmintref31_Tax.mono _ _)
      | (with_reducible exact LeO.refl _)
      | (with_reducible exact LeO.none _)
      | (with_reducible refine LeO.ite ?_ ?_)
      | (with_reducible refine LeO.bind ?_ (fun _ => ?_))
      | exact ih0 _ _ _ _ _ _ _
      | exact ih1 _ _ _ _ _ _
      | exact ih2 _ _ _ _ _
      | exact tax_Due.mono _ _ _ _
      | exact tax_More.mono _ _ _ _ _
      | exact worldmintlaw31_lives.mono _
      | exact worldmintref31_Tax.mono _ _
      | exact LeO.none _
      | refine LeO.ite ?_ ?_
      | refine LeO.bind ?_ (fun _ => ?_)
set_option maxHeartbeats 8000000 in
set_option maxRecDepth 100000 in
theorem worldmintlaw31_TaxSlope.calls (k : Nat) (A0 : Option Addr) (c0 : Nat) (l0 : List Int) (a1 : Int) (a2 : Int) (r : Bool) (w : World) (hr0 : Kd.C (Kd.int .i64) w A0 l0.length l0) (hc0 : l0.length ≤ c0) (h : worldmintlaw31_TaxSlope.f k l0 a1 a2 = some r) (hG : GOK w) (hT_ : r = true) :
    Calls Tryd.prog 3 #[.slice A0 l0.length c0, .int .i64 a1, .int .i64 a2] w fun e w' => e = .returned (.bool r) ∧ Below w.heap.size w w' := by
  have hu25 := Tryd.underlying25
  have HR0 := Aside0.mk hr0
  have HC0 := Aside0.mk hc0
  clear hr0 hc0
  have HB := Aside0.mk (Below.refl w.heap.size w)
  have H : ((worldmintref31_Tax.f k l0).bind fun bt196 => ((worldmintref31_Sum.f bt196.1 bt196.2 a1).bind fun t201 => ((tax_Due.f k bt196.1 bt196.2 t201).bind fun bt202 => ((tax_Net.f bt196.1 bt196.2 (wrap64 (t201 - bt202.1))).bind fun bt204 => (if bt202.2 = 0 then (if bt204.2 = 0 then (if bt202.1 < 0 then (worldmintlaw31_TaxSlope.j0 k a2 t201 bt202.1 bt204.1 true bt196.1 bt196.2) else (if bt202.1 > t201 then (worldmintlaw31_TaxSlope.j0 k a2 t201 bt202.1 bt204.1 true bt196.1 bt196.2) else (worldmintlaw31_TaxSlope.j0 k a2 t201 bt202.1 bt204.1 (decide (bt204.1 < t201)) bt196.1 bt196.2))) else (worldmintlaw31_TaxSlope.j0 k a2 t201 bt202.1 bt204.1 true bt196.1 bt196.2)) else (worldmintlaw31_TaxSlope.j0 k a2 t201 bt202.1 bt204.1 true bt196.1 bt196.2)))))) = some r := h
  clear h
  replace H := Option.bind_eq_some_iff.mp H
  obtain ⟨⟨t196, t197⟩, A40, H⟩ := H
  replace H : ((worldmintref31_Sum.f t196 t197 a1).bind fun t201 => ((tax_Due.f k t196 t197 t201).bind fun bt202 => ((tax_Net.f t196 t197 (wrap64 (t201 - bt202.1))).bind fun bt204 => (if bt202.2 = 0 then (if bt204.2 = 0 then (if bt202.1 < 0 then (worldmintlaw31_TaxSlope.j0 k a2 t201 bt202.1 bt204.1 true t196 t197) else (if bt202.1 > t201 then (worldmintlaw31_TaxSlope.j0 k a2 t201 bt202.1 bt204.1 true t196 t197) else (worldmintlaw31_TaxSlope.j0 k a2 t201 bt202.1 bt204.1 (decide (bt204.1 < t201)) t196 t197))) else (worldmintlaw31_TaxSlope.j0 k a2 t201 bt202.1 bt204.1 true t196 t197)) else (worldmintlaw31_TaxSlope.j0 k a2 t201 bt202.1 bt204.1 true t196 t197))))) = some r := H
  have A4 := Aside0.mk A40
  clear A40
  replace H := Option.bind_eq_some_iff.mp H
  obtain ⟨t201, A50, H⟩ := H
  replace H : ((tax_Due.f k t196 t197 t201).bind fun bt202 => ((tax_Net.f t196 t197 (wrap64 (t201 - bt202.1))).bind fun bt204 => (if bt202.2 = 0 then (if bt204.2 = 0 then (if bt202.1 < 0 then (worldmintlaw31_TaxSlope.j0 k a2 t201 bt202.1 bt204.1 true t196 t197) else (if bt202.1 > t201 then (worldmintlaw31_TaxSlope.j0 k a2 t201 bt202.1 bt204.1 true t196 t197) else (worldmintlaw31_TaxSlope.j0 k a2 t201 bt202.1 bt204.1 (decide (bt204.1 < t201)) t196 t197))) else (worldmintlaw31_TaxSlope.j0 k a2 t201 bt202.1 bt204.1 true t196 t197)) else (worldmintlaw31_TaxSlope.j0 k a2 t201 bt202.1 bt204.1 true t196 t197)))) = some r := H
  have A5 := Aside0.mk A50
  clear A50
  replace H := Option.bind_eq_some_iff.mp H
  obtain ⟨⟨t202, t203⟩, A60, H⟩ := H
  replace H : ((tax_Net.f t196 t197 (wrap64 (t201 - t202))).bind fun bt204 => (if t203 = 0 then (if bt204.2 = 0 then (if t202 < 0 then (worldmintlaw31_TaxSlope.j0 k a2 t201 t202 bt204.1 true t196 t197) else (if t202 > t201 then (worldmintlaw31_TaxSlope.j0 k a2 t201 t202 bt204.1 true t196 t197) else (worldmintlaw31_TaxSlope.j0 k a2 t201 t202 bt204.1 (decide (bt204.1 < t201)) t196 t197))) else (worldmintlaw31_TaxSlope.j0 k a2 t201 t202 bt204.1 true t196 t197)) else (worldmintlaw31_TaxSlope.j0 k a2 t201 t202 bt204.1 true t196 t197))) = some r := H
  have A6 := Aside0.mk A60
  clear A60
  replace H := Option.bind_eq_some_iff.mp H
  obtain ⟨⟨t204, t205⟩, A70, H⟩ := H
  replace H : (if t203 = 0 then (if t205 = 0 then (if t202 < 0 then (worldmintlaw31_TaxSlope.j0 k a2 t201 t202 t204 true t196 t197) else (if t202 > t201 then (worldmintlaw31_TaxSlope.j0 k a2 t201 t202 t204 true t196 t197) else (worldmintlaw31_TaxSlope.j0 k a2 t201 t202 t204 (decide (t204 < t201)) t196 t197))) else (worldmintlaw31_TaxSlope.j0 k a2 t201 t202 t204 true t196 t197)) else (worldmintlaw31_TaxSlope.j0 k a2 t201 t202 t204 true t196 t197)) = some r := H
  have A7 := Aside0.mk A70
  clear A70
  have HC8 := Aside0.mk H
  clear H
  go_enter Tryd.func3, Tryd.ntmps3
  go_upto_region 5 with (first | ((with_reducible refine gate_callee (f := 4) rfl ?_); refine goesL_ (some 23) rfl rfl Tryd.func4 (by kernel_rfl) rfl #[.slice A0 l0.length c0] rfl (by (try simp only [List.map_toArray, List.map_cons, List.map_nil]); first | done | rfl | (simp only [List.length_drop, List.length_take]; rfl)) ?_; (with_reducible refine (worldmintref31_Tax.calls k _ _ l0 t196 t197 _ ?side1 ?side2 A4.out).mono ?_); (case side1 => repeat (first | exact HR0.out | (with_reducible refine Kd.C_alloc ?_ _) | (with_reducible refine Kd.C_drewN ?_ _) | (with_reducible refine Kd.C_drew ?_))); (case side2 => exact HC0.out); rintro e w9 ⟨v198, rfl, ho0, hb⟩; refine ⟨_, rfl, ?_⟩; have n0_ := Aside0.mk (Kd.R_lower ho0 (below_size (by repeat (first | (with_reducible first | exact HB.out | apply below_alloc | apply pw_below_drewN | apply below_drew1) | exact HB.out)))); have n1_ := Aside0.mk (below_step (by repeat (first | (with_reducible first | exact HB.out | apply below_alloc | apply pw_below_drewN | apply below_drew1) | exact HB.out)) hb); clear HB; have HO199 := n0_; have HB := n1_; clear n0_ n1_; (try clear hb); (try clear hb2); (try clear hk); (try clear hi); (try clear ho0)) | ((with_reducible refine gate_dst (N := 7) rfl ?_); refine box_event ?hg (N := 7) ?hd (cs := #[.string (⟨#[]⟩ : ByteArray), .slice none 0 0]) (t := 25) ?hr ?_; (case hd => rfl); (case hg => rfl); (case hr => first | (go_simp; done) | (go_simp; rfl)); intro gb200 hg w10 hbox hb; have n0_ := Aside0.mk (Kd.R_below (by (with_reducible repeat (first | apply Kd.R_alloc | apply Kd.R_drewN | apply Kd.R_drew)); exact HO199.out) hb); have n1_ := Aside0.mk (below_step (by repeat (first | (with_reducible first | exact HB.out | apply below_alloc | apply pw_below_drewN | apply below_drew1) | exact HB.out)) hb); have n2_ := Aside0.mk (hbox); have n3_ := Aside0.mk ((by rw [hg]; exact (below_size (by repeat (first | (with_reducible first | exact HB.out | apply below_alloc | apply pw_below_drewN | apply below_drew1) | exact HB.out))) : w.heap.size ≤ gb200)); have n4_ := Aside0.mk ((by rw [hg]; exact (below_size (by repeat (first | (with_reducible first | exact HB.out | apply below_alloc | apply pw_below_drewN | apply below_drew1) | exact HB.out))) : w.heap.size ≤ gb200)); clear HO199; clear HB; have HO199 := n0_; have HB := n1_; have BK200 := n2_; have GW200 := n3_; have GE200 := n4_; clear n0_ n1_ n2_ n3_ n4_; clear hb hbox hg; have hcz11_0 : w10.cell? ⟨gb200, 0, none⟩ = some (.string (⟨#[]⟩ : ByteArray)) := (blk_cell BK200.out 0).trans rfl; have hcz11_1 : w10.cell? ⟨gb200, 1, none⟩ = some (.slice none 0 0) := (blk_cell BK200.out 1).trans rfl; have hfz11_0 := blk_frozen BK200.out 0; have hfz11_1 := blk_frozen BK200.out 1; obtain ⟨Ao12, co12, eo12⟩ := Kd.R_slice HO199.out; subst eo12) | ((with_reducible refine gate_callee (f := 5) rfl ?_); refine goesL_ (some 26) rfl rfl Tryd.func5 (by kernel_rfl) rfl #[.agg #[.string t196, .slice Ao12 t197.length co12], .int .i64 a1] rfl (by (try simp only [List.map_toArray, List.map_cons, List.map_nil]); first | done | rfl | (simp only [List.length_drop, List.length_take]; rfl)) ?_; (with_reducible refine (worldmintref31_Sum.calls t196 _ _ t197 a1 t201 _ ?side1 ?side2 A5.out).mono ?_); (case side1 => refine (Kd.R_reads' (e := 37) (base := w.heap.size) (ok := fun k_ => True) (n := t197.length) (c := co12) ?_).2.2; exact (by (with_reducible repeat (first | apply Kd.R_alloc | apply Kd.R_drewN | apply Kd.R_drew)); exact (Kd.R_mono (Kd.R_far (p := ⟨gb200, 1, none⟩) (Kd.R_far (p := ⟨gb200, 0, none⟩) (Kd.R_types HO199.out BK200.out (by decide)) (fun _ hk => hk.2) (.string t196)) (fun _ hk => hk.2) (.slice Ao12 t197.length co12)) (fun _ h_ => h_.1)))); (case side2 => exact (Kd.R_reads' HO199.out).2.1); rintro e w13 ⟨rfl, hb⟩; refine ⟨_, rfl, ?_⟩; have n0_ := Aside0.mk (Kd.R_below (by (with_reducible repeat (first | apply Kd.R_alloc | apply Kd.R_drewN | apply Kd.R_drew)); exact (Kd.R_mono (Kd.R_far (p := ⟨gb200, 1, none⟩) (Kd.R_far (p := ⟨gb200, 0, none⟩) (Kd.R_types HO199.out BK200.out (by decide)) (fun _ hk => hk.2) (.string t196)) (fun _ hk => hk.2) (.slice Ao12 t197.length co12)) (fun _ h_ => h_.1))) hb); have n1_ := Aside0.mk (blk_below (g := gb200) (o := .cells #[.string t196, .slice Ao12 t197.length co12] 25 (0, 0)) (by (with_reducible repeat (first | refine blk_drewN ?_ _ | refine blk_drew ?_ | refine blk_alloc ?_ _)); refine blk_put (cs := #[.string t196, .slice none 0 0]) ?_ 1 _ rfl; (with_reducible repeat (first | refine blk_drewN ?_ _ | refine blk_drew ?_ | refine blk_alloc ?_ _)); refine blk_put (cs := #[.string (⟨#[]⟩ : ByteArray), .slice none 0 0]) ?_ 0 _ rfl; (with_reducible repeat (first | refine blk_drewN ?_ _ | refine blk_drew ?_ | refine blk_alloc ?_ _)); exact BK200.out) hb); have n2_ := Aside0.mk (below_step (by repeat (first | (with_reducible first | exact HB.out | apply below_alloc | apply pw_below_drewN | apply below_drew1 | refine below_set ?_ GE200.out) | exact HB.out)) hb); clear HO199; clear BK200; clear HB; have HO199 := n0_; have BK200 := n1_; have HB := n2_; clear n0_ n1_ n2_; (try clear hb); (try clear hb2); (try clear hk); (try clear hi); have hcz14_0 : w13.cell? ⟨gb200, 0, none⟩ = some (.string t196) := (blk_cell BK200.out 0).trans rfl; have hcz14_1 : w13.cell? ⟨gb200, 1, none⟩ = some (.slice Ao12 t197.length co12) := (blk_cell BK200.out 1).trans rfl; have hfz14_0 := blk_frozen BK200.out 0; have hfz14_1 := blk_frozen BK200.out 1) | ((with_reducible refine gate_callee (f := 6) rfl ?_); refine goesL_ (some 30) rfl rfl Tryd.func6 (by kernel_rfl) rfl #[.agg #[.string t196, .slice Ao12 t197.length co12], .int .i64 t201] rfl (by (try simp only [List.map_toArray, List.map_cons, List.map_nil]); first | done | rfl | (simp only [List.length_drop, List.length_take]; rfl)) ?_; (with_reducible refine (tax_Due.calls k t196 _ _ t197 t201 t202 t203 _ ?side1 ?side2 A6.out (by first | exact hG | exact GOK.of_below hG (by repeat (first | (with_reducible first | exact HB.out | apply below_alloc | apply pw_below_drewN | apply below_drew1 | refine below_set ?_ GE200.out) | exact HB.out)) | (repeat (first | exact hG | apply GOK.drewN | apply GOK.drew)))).mono ?_); (case side1 => repeat (first | exact (Kd.R_reads' HO199.out).2.2 | (with_reducible refine Kd.C_alloc ?_ _) | (with_reducible refine Kd.C_drewN ?_ _) | (with_reducible refine Kd.C_drew ?_))); (case side2 => exact (Kd.R_reads' HO199.out).2.1); rintro e w15 ⟨rfl, hb⟩; refine ⟨_, rfl, ?_⟩; have n0_ := Aside0.mk (Kd.R_below (by (with_reducible repeat (first | apply Kd.R_alloc | apply Kd.R_drewN | apply Kd.R_drew)); exact HO199.out) hb); have n1_ := Aside0.mk (blk_below (g := gb200) (o := .cells #[.string t196, .slice Ao12 t197.length co12] 25 (0, 0)) (by (with_reducible repeat (first | refine blk_drewN ?_ _ | refine blk_drew ?_ | refine blk_alloc ?_ _)); exact BK200.out) hb); have n2_ := Aside0.mk (below_step (by repeat (first | (with_reducible first | exact HB.out | apply below_alloc | apply pw_below_drewN | apply below_drew1 | refine below_set ?_ GE200.out) | exact HB.out)) hb); clear HO199; clear BK200; clear HB; have HO199 := n0_; have BK200 := n1_; have HB := n2_; clear n0_ n1_ n2_; (try clear hb); (try clear hb2); (try clear hk); (try clear hi); have hcz16_0 : w15.cell? ⟨gb200, 0, none⟩ = some (.string t196) := (blk_cell BK200.out 0).trans rfl; have hcz16_1 : w15.cell? ⟨gb200, 1, none⟩ = some (.slice Ao12 t197.length co12) := (blk_cell BK200.out 1).trans rfl; have hfz16_0 := blk_frozen BK200.out 0; have hfz16_1 := blk_frozen BK200.out 1) | ((with_reducible refine gate_callee (f := 7) rfl ?_); refine goesL_ (some 38) rfl rfl Tryd.func7 (by kernel_rfl) rfl #[.agg #[.string t196, .slice Ao12 t197.length co12], .int .i64 (wrap64 (t201 - t202))] rfl (by (try simp only [List.map_toArray, List.map_cons, List.map_nil]); first | done | rfl | (simp only [List.length_drop, List.length_take]; rfl)) ?_; (with_reducible refine (tax_Net.calls t196 _ _ t197 (wrap64 (t201 - t202)) t204 t205 _ ?side1 ?side2 A7.out (by first | exact hG | exact GOK.of_below hG (by repeat (first | (with_reducible first | exact HB.out | apply below_alloc | apply pw_below_drewN | apply below_drew1 | refine below_set ?_ GE200.out) | exact HB.out)) | (repeat (first | exact hG | apply GOK.drewN | apply GOK.drew)))).mono ?_); (case side1 => repeat (first | exact (Kd.R_reads' HO199.out).2.2 | (with_reducible refine Kd.C_alloc ?_ _) | (with_reducible refine Kd.C_drewN ?_ _) | (with_reducible refine Kd.C_drew ?_))); (case side2 => exact (Kd.R_reads' HO199.out).2.1); rintro e w17 ⟨rfl, hb⟩; refine ⟨_, rfl, ?_⟩; have n0_ := Aside0.mk (Kd.R_below (by (with_reducible repeat (first | apply Kd.R_alloc | apply Kd.R_drewN | apply Kd.R_drew)); exact HO199.out) hb); have n1_ := Aside0.mk (blk_below (g := gb200) (o := .cells #[.string t196, .slice Ao12 t197.length co12] 25 (0, 0)) (by (with_reducible repeat (first | refine blk_drewN ?_ _ | refine blk_drew ?_ | refine blk_alloc ?_ _)); exact BK200.out) hb); have n2_ := Aside0.mk (below_step (by repeat (first | (with_reducible first | exact HB.out | apply below_alloc | apply pw_below_drewN | apply below_drew1 | refine below_set ?_ GE200.out) | exact HB.out)) hb); clear HO199; clear BK200; clear HB; have HO199 := n0_; have BK200 := n1_; have HB := n2_; clear n0_ n1_ n2_; (try clear hb); (try clear hb2); (try clear hk); (try clear hi)))
  (try simp only [Act.put, List.setIfInBounds_toArray, List.set_cons_zero, List.set_cons_succ])
  go_cut [60] (fun v60 wc => ∃ (kq : Nat) (x60_7 : Bool), v60 = .bool x60_7 ∧ Aside0 (worldmintlaw31_TaxSlope.j0 kq a2 t201 t202 t204 x60_7 t196 t197 = some r) ∧ Aside0 (kq ≤ k) ∧ Aside0 (Kd.R k37 37 wc w.heap.size (fun _ => True) (.slice Ao12 t197.length co12) t197) ∧ Aside0 (wc.heap[gb200]? = some (.cells #[.string t196, (.slice Ao12 t197.length co12)] 25 (0, 0))) ∧ Aside0 (Below w.heap.size w wc))
  case first =>
    have H := HC8.out
    clear HC8
    by_cases c18 : t203 = 0
    · rw [if_pos c18] at H
      have c18b0 : (t203 == 0) = true := beq_iff_eq.mpr c18
      have c18b1 : (t203 != 0) = false := bne_eq_false_iff_eq.mpr c18
      clear c18
      (first | rw [c18b0] | (simp only [i64_w, i32_w]; rw [c18b0]) | skip)
      by_cases c19 : t205 = 0
      · rw [if_pos c19] at H
        have c19b0 : (t205 == 0) = true := beq_iff_eq.mpr c19
        have c19b1 : (t205 != 0) = false := bne_eq_false_iff_eq.mpr c19
        clear c19
        by_cases c20 : t202 < 0
        · rw [if_pos c20] at H
          have c20b0 : decide (t202 < 0) = true := decide_eq_true c20
          clear c20
          have H' := Aside0.mk H
          clear H
          go_wp2
          go_meet
          case rel => exact ⟨_, (true), (by first | rfl | (simp; done) | (simp [*]; done)), H', ⟨by first | omega | exact Nat.le_refl _⟩, ⟨by (with_reducible repeat (first | apply Kd.R_alloc | apply Kd.R_drewN | apply Kd.R_drew)); exact HO199.out⟩, ⟨by (with_reducible repeat (first | refine blk_drewN ?_ _ | refine blk_drew ?_ | refine blk_alloc ?_ _)); exact BK200.out⟩, ⟨by repeat (first | (with_reducible first | exact HB.out | apply below_alloc | apply pw_below_drewN | apply below_drew1 | refine below_set ?_ GE200.out) | exact HB.out)⟩⟩
        · rw [if_neg c20] at H
          have c20b0 : decide (t202 < 0) = false := decide_eq_false c20
          clear c20
          by_cases c21 : t202 > t201
          · rw [if_pos c21] at H
            have c21b0 : decide (t201 < t202) = true := decide_eq_true c21
            clear c21
            have H' := Aside0.mk H
            clear H
            go_wp2
            go_meet
            case rel => exact ⟨_, (true), (by first | rfl | (simp; done) | (simp [*]; done)), H', ⟨by first | omega | exact Nat.le_refl _⟩, ⟨by (with_reducible repeat (first | apply Kd.R_alloc | apply Kd.R_drewN | apply Kd.R_drew)); exact HO199.out⟩, ⟨by (with_reducible repeat (first | refine blk_drewN ?_ _ | refine blk_drew ?_ | refine blk_alloc ?_ _)); exact BK200.out⟩, ⟨by repeat (first | (with_reducible first | exact HB.out | apply below_alloc | apply pw_below_drewN | apply below_drew1 | refine below_set ?_ GE200.out) | exact HB.out)⟩⟩
          · rw [if_neg c21] at H
            have c21b0 : decide (t201 < t202) = false := decide_eq_false c21
            clear c21
            have H' := Aside0.mk H
            clear H
            go_wp2
            go_meet
            case rel => exact ⟨_, (decide (t204 < t201)), (by first | rfl | (simp; done) | (simp [*]; done)), H', ⟨by first | omega | exact Nat.le_refl _⟩, ⟨by (with_reducible repeat (first | apply Kd.R_alloc | apply Kd.R_drewN | apply Kd.R_drew)); exact HO199.out⟩, ⟨by (with_reducible repeat (first | refine blk_drewN ?_ _ | refine blk_drew ?_ | refine blk_alloc ?_ _)); exact BK200.out⟩, ⟨by repeat (first | (with_reducible first | exact HB.out | apply below_alloc | apply pw_below_drewN | apply below_drew1 | refine below_set ?_ GE200.out) | exact HB.out)⟩⟩
      · rw [if_neg c19] at H
        have c19b0 : (t205 == 0) = false := beq_eq_false_iff_ne.mpr c19
        have c19b1 : (t205 != 0) = true := bne_iff_ne.mpr c19
        have H' := Aside0.mk H
        clear H
        go_wp2
        go_meet
        case rel => exact ⟨_, (true), (by first | rfl | (simp; done) | (simp [*]; done)), H', ⟨by first | omega | exact Nat.le_refl _⟩, ⟨by (with_reducible repeat (first | apply Kd.R_alloc | apply Kd.R_drewN | apply Kd.R_drew)); exact HO199.out⟩, ⟨by (with_reducible repeat (first | refine blk_drewN ?_ _ | refine blk_drew ?_ | refine blk_alloc ?_ _)); exact BK200.out⟩, ⟨by repeat (first | (with_reducible first | exact HB.out | apply below_alloc | apply pw_below_drewN | apply below_drew1 | refine below_set ?_ GE200.out) | exact HB.out)⟩⟩
    · rw [if_neg c18] at H
      have c18b0 : (t203 == 0) = false := beq_eq_false_iff_ne.mpr c18
      have c18b1 : (t203 != 0) = true := bne_iff_ne.mpr c18
      (first | rw [c18b0] | (simp only [i64_w, i32_w]; rw [c18b0]) | skip)
      have H' := Aside0.mk H
      clear H
      go_wp2
      go_meet
      case rel => exact ⟨_, (true), (by first | rfl | (simp; done) | (simp [*]; done)), H', ⟨by first | omega | exact Nat.le_refl _⟩, ⟨by (with_reducible repeat (first | apply Kd.R_alloc | apply Kd.R_drewN | apply Kd.R_drew)); exact HO199.out⟩, ⟨by (with_reducible repeat (first | refine blk_drewN ?_ _ | refine blk_drew ?_ | refine blk_alloc ?_ _)); exact BK200.out⟩, ⟨by repeat (first | (with_reducible first | exact HB.out | apply below_alloc | apply pw_below_drewN | apply below_drew1 | refine below_set ?_ GE200.out) | exact HB.out)⟩⟩
  case rest =>
    clear HC8
    try clear c1
    try clear c2
    try clear p2
    try clear c3
    try clear c4
    try clear c5
    try clear c6
    try clear p6
    try clear c7
    try clear c18
    try clear c18b0
    try clear c18b1
    try clear c19
    try clear c19b0
    try clear c19b1
    try clear c20
    try clear c20b0
    try clear c21
    try clear c21b0
    try clear hcz11_0
    try clear hcz11_1
    try clear hcz14_0
    try clear hcz14_1
    try clear hcz16_0
    try clear hcz16_1
    try clear hfz11_0
    try clear hfz11_1
    try clear hfz14_0
    try clear hfz14_1
    try clear hfz16_0
    try clear hfz16_1
    obtain ⟨kq, x60_7, rfl, HA, HJ7, HO_201001, BK200, HB⟩ := hcut
    cases kq with
    | zero => exact absurd HA.out (by simp [worldmintlaw31_TaxSlope.j0])
    | succ kj7 =>
      have H := HA.out
      clear HA
      simp only [worldmintlaw31_TaxSlope.j0] at H
      by_cases c22 : x60_7 = true
      · subst c22
        have H1 : (some false) = some r := by rw [if_pos rfl] at H; exact H
        clear H
        have H := H1
        clear H1
        subst hT_
        cases H
      · replace c22 := Bool.eq_false_iff.mpr c22
        subst c22
        have H1 : ((tax_Due.f kj7 t196 t197 t204).bind fun bt206 => (if bt206.2 = 0 then (worldmintlaw31_TaxSlope.j1 kj7 a2 t201 t202 ((wrap64 (t204 - bt206.1)) != (wrap64 (t201 - t202))) t196 t197) else (worldmintlaw31_TaxSlope.j1 kj7 a2 t201 t202 true t196 t197))) = some r := by rw [if_neg (show ¬ (false = true) by decide)] at H; exact H
        clear H
        have H := H1
        clear H1
        replace H := Option.bind_eq_some_iff.mp H
        obtain ⟨⟨t206, t207⟩, A230, H⟩ := H
        replace H : (if t207 = 0 then (worldmintlaw31_TaxSlope.j1 kj7 a2 t201 t202 ((wrap64 (t204 - t206)) != (wrap64 (t201 - t202))) t196 t197) else (worldmintlaw31_TaxSlope.j1 kj7 a2 t201 t202 true t196 t197)) = some r := H
        have A23 := Aside0.mk A230
        clear A230
        have HC24 := Aside0.mk H
        clear H
        have hcz25_0 : wc.cell? ⟨gb200, 0, none⟩ = some (.string t196) := (blk_cell BK200.out 0).trans rfl
        have hcz25_1 : wc.cell? ⟨gb200, 1, none⟩ = some (.slice Ao12 t197.length co12) := (blk_cell BK200.out 1).trans rfl
        have hfz25_0 := blk_frozen BK200.out 0
        have hfz25_1 := blk_frozen BK200.out 1
        go_upto_region 8 with (first | ((with_reducible refine gate_callee (f := 6) rfl ?_); refine goesL_ (some 64) rfl rfl Tryd.func6 (by kernel_rfl) rfl #[.agg #[.string t196, .slice Ao12 t197.length co12], .int .i64 t204] rfl (by (try simp only [List.map_toArray, List.map_cons, List.map_nil]); first | done | rfl | (simp only [List.length_drop, List.length_take]; rfl)) ?_; (with_reducible refine (tax_Due.calls kj7 t196 _ _ t197 t204 t206 t207 _ ?side1 ?side2 A23.out (by first | exact hG | exact GOK.of_below hG (by repeat (first | (with_reducible first | exact HB.out | apply below_alloc | apply pw_below_drewN | apply below_drew1 | refine below_set ?_ GE200.out) | exact HB.out)) | (repeat (first | exact hG | apply GOK.drewN | apply GOK.drew)))).mono ?_); (case side1 => repeat (first | exact (Kd.R_reads' HO_201001.out).2.2 | (with_reducible refine Kd.C_alloc ?_ _) | (with_reducible refine Kd.C_drewN ?_ _) | (with_reducible refine Kd.C_drew ?_))); (case side2 => exact (Kd.R_reads' HO_201001.out).2.1); rintro e w26 ⟨rfl, hb⟩; refine ⟨_, rfl, ?_⟩; have n0_ := Aside0.mk (Kd.R_below (by (with_reducible repeat (first | apply Kd.R_alloc | apply Kd.R_drewN | apply Kd.R_drew)); exact HO_201001.out) hb); have n1_ := Aside0.mk (blk_below (g := gb200) (o := .cells #[.string t196, .slice Ao12 t197.length co12] 25 (0, 0)) (by (with_reducible repeat (first | refine blk_drewN ?_ _ | refine blk_drew ?_ | refine blk_alloc ?_ _)); exact BK200.out) hb); have n2_ := Aside0.mk (below_step (by repeat (first | (with_reducible first | exact HB.out | apply below_alloc | apply pw_below_drewN | apply below_drew1 | refine below_set ?_ GE200.out) | exact HB.out)) hb); clear HO_201001; clear BK200; clear HB; have HO_201001 := n0_; have BK200 := n1_; have HB := n2_; clear n0_ n1_ n2_; (try clear hb); (try clear hb2); (try clear hk); (try clear hi)))
        (try simp only [Act.put, List.setIfInBounds_toArray, List.set_cons_zero, List.set_cons_succ])
        go_cut [77] (fun v77 wc => ∃ (kq : Nat) (x77_23 : Bool), v77 = .bool x77_23 ∧ Aside0 (worldmintlaw31_TaxSlope.j1 kq a2 t201 t202 x77_23 t196 t197 = some r) ∧ Aside0 (kq ≤ kj7) ∧ Aside0 (Kd.R k37 37 wc w.heap.size (fun _ => True) (.slice Ao12 t197.length co12) t197) ∧ Aside0 (wc.heap[gb200]? = some (.cells #[.string t196, (.slice Ao12 t197.length co12)] 25 (0, 0))) ∧ Aside0 (Below w.heap.size w wc))
        case first =>
          have H := HC24.out
          clear HC24
          by_cases c27 : t207 = 0
          · rw [if_pos c27] at H
            have c27b0 : (t207 == 0) = true := beq_iff_eq.mpr c27
            have c27b1 : (t207 != 0) = false := bne_eq_false_iff_eq.mpr c27
            clear c27
            (first | rw [c27b0] | (simp only [i64_w, i32_w]; rw [c27b0]) | skip)
            have H' := Aside0.mk H
            clear H
            go_wp2
            go_meet
            case rel => exact ⟨_, (((wrap64 (t204 - t206)) != (wrap64 (t201 - t202)))), (by first | rfl | (simp; done) | (simp [*]; done)), H', ⟨by have := HJ7.out; first | omega | exact Nat.le_refl _⟩, ⟨by (with_reducible repeat (first | apply Kd.R_alloc | apply Kd.R_drewN | apply Kd.R_drew)); exact HO_201001.out⟩, ⟨by (with_reducible repeat (first | refine blk_drewN ?_ _ | refine blk_drew ?_ | refine blk_alloc ?_ _)); exact BK200.out⟩, ⟨by repeat (first | (with_reducible first | exact HB.out | apply below_alloc | apply pw_below_drewN | apply below_drew1 | refine below_set ?_ GE200.out) | exact HB.out)⟩⟩
          · rw [if_neg c27] at H
            have c27b0 : (t207 == 0) = false := beq_eq_false_iff_ne.mpr c27
            have c27b1 : (t207 != 0) = true := bne_iff_ne.mpr c27
            (first | rw [c27b0] | (simp only [i64_w, i32_w]; rw [c27b0]) | skip)
            have H' := Aside0.mk H
            clear H
            go_wp2
            go_meet
            case rel => exact ⟨_, (true), (by first | rfl | (simp; done) | (simp [*]; done)), H', ⟨by have := HJ7.out; first | omega | exact Nat.le_refl _⟩, ⟨by (with_reducible repeat (first | apply Kd.R_alloc | apply Kd.R_drewN | apply Kd.R_drew)); exact HO_201001.out⟩, ⟨by (with_reducible repeat (first | refine blk_drewN ?_ _ | refine blk_drew ?_ | refine blk_alloc ?_ _)); exact BK200.out⟩, ⟨by repeat (first | (with_reducible first | exact HB.out | apply below_alloc | apply pw_below_drewN | apply below_drew1 | refine below_set ?_ GE200.out) | exact HB.out)⟩⟩
        case rest =>
          clear HC24
          try clear c1
          try clear c2
          try clear p2
          try clear c3
          try clear c4
          try clear c5
          try clear c6
          try clear p6
          try clear c7
          try clear c18
          try clear c18b0
          try clear c18b1
          try clear c19
          try clear c19b0
          try clear c19b1
          try clear c20
          try clear c20b0
          try clear c21
          try clear c21b0
          try clear c22
          try clear c27
          try clear c27b0
          try clear c27b1
          try clear hcz11_0
          try clear hcz11_1
          try clear hcz14_0
          try clear hcz14_1
          try clear hcz16_0
          try clear hcz16_1
          try clear hcz25_0
          try clear hcz25_1
          try clear hfz11_0
          try clear hfz11_1
          try clear hfz14_0
          try clear hfz14_1
          try clear hfz16_0
          try clear hfz16_1
          try clear hfz25_0
          try clear hfz25_1
          try clear p2
          try clear p6
          obtain ⟨kq, x77_23, rfl, HA, HJ23, HO_201001, BK200, HB⟩ := hcut
          cases kq with
          | zero => exact absurd HA.out (by simp [worldmintlaw31_TaxSlope.j1])
          | succ kj23 =>
            have H := HA.out
            clear HA
            simp only [worldmintlaw31_TaxSlope.j1] at H
            by_cases c28 : x77_23 = true
            · subst c28
              have H1 : (some false) = some r := by rw [if_pos rfl] at H; exact H
              clear H
              have H := H1
              clear H1
              subst hT_
              cases H
            · replace c28 := Bool.eq_false_iff.mpr c28
              subst c28
              have H1 : (if t201 > 0 then ((tax_Due.f kj23 t196 t197 (wrap64 (t201 - 1))).bind fun bt208 => (if bt208.2 = 0 then (if (wrap64 (t202 - bt208.1)) < 0 then (some false) else (if (wrap64 (t202 - bt208.1)) > 1 then (some false) else (worldmintlaw31_TaxSlope.j2 kj23 a2 t201 t202 t196 t197))) else (some false))) else (worldmintlaw31_TaxSlope.j2 kj23 a2 t201 t202 t196 t197)) = some r := by rw [if_neg (show ¬ (false = true) by decide)] at H; exact H
              clear H
              have H := H1
              clear H1
              have HC29 := Aside0.mk H
              clear H
              go_upto_if 79 with (fail)
              go_cut [] (fun wc => ∃ (kq : Nat), Aside0 (worldmintlaw31_TaxSlope.j2 kq a2 t201 t202 t196 t197 = some r) ∧ Aside0 (kq ≤ kj23) ∧ Aside0 (Kd.R k37 37 wc w.heap.size (fun _ => True) (.slice Ao12 t197.length co12) t197) ∧ Aside0 (wc.heap[gb200]? = some (.cells #[.string t196, (.slice Ao12 t197.length co12)] 25 (0, 0))) ∧ Aside0 (Below w.heap.size w wc))
              case first =>
                have H := HC29.out
                clear HC29
                by_cases c30 : t201 > 0
                · rw [if_pos c30] at H
                  have c30b0 : decide (0 < t201) = true := decide_eq_true c30
                  clear c30
                  (first | rw [c30b0] | (simp only [i64_w, i32_w]; rw [c30b0]) | skip)
                  replace H := Option.bind_eq_some_iff.mp H
                  obtain ⟨⟨t208, t209⟩, A310, H⟩ := H
                  replace H : (if t209 = 0 then (if (wrap64 (t202 - t208)) < 0 then (some false) else (if (wrap64 (t202 - t208)) > 1 then (some false) else (worldmintlaw31_TaxSlope.j2 kj23 a2 t201 t202 t196 t197))) else (some false)) = some r := H
                  have A31 := Aside0.mk A310
                  clear A310
                  by_cases c32 : t209 = 0
                  · rw [if_pos c32] at H
                    have c32b0 : (t209 == 0) = true := beq_iff_eq.mpr c32
                    have c32b1 : (t209 != 0) = false := bne_eq_false_iff_eq.mpr c32
                    clear c32
                    by_cases c33 : (wrap64 (t202 - t208)) < 0
                    · rw [if_pos c33] at H
                      have c33b0 : decide ((wrap64 (t202 - t208)) < 0) = true := decide_eq_true c33
                      clear c33
                      subst hT_
                      cases H
                    · rw [if_neg c33] at H
                      have c33b0 : decide ((wrap64 (t202 - t208)) < 0) = false := decide_eq_false c33
                      clear c33
                      by_cases c34 : (wrap64 (t202 - t208)) > 1
                      · rw [if_pos c34] at H
                        have c34b0 : decide (1 < (wrap64 (t202 - t208))) = true := decide_eq_true c34
                        clear c34
                        subst hT_
                        cases H
                      · rw [if_neg c34] at H
                        have c34b0 : decide (1 < (wrap64 (t202 - t208))) = false := decide_eq_false c34
                        clear c34
                        have H' := Aside0.mk H
                        clear H
                        have hcz35_0 : wc.cell? ⟨gb200, 0, none⟩ = some (.string t196) := (blk_cell BK200.out 0).trans rfl
                        have hcz35_1 : wc.cell? ⟨gb200, 1, none⟩ = some (.slice Ao12 t197.length co12) := (blk_cell BK200.out 1).trans rfl
                        have hfz35_0 := blk_frozen BK200.out 0
                        have hfz35_1 := blk_frozen BK200.out 1
                        go_wp2_with (first | ((with_reducible refine gate_callee (f := 6) rfl ?_); refine goesL_ (some 84) rfl rfl Tryd.func6 (by kernel_rfl) rfl #[.agg #[.string t196, .slice Ao12 t197.length co12], .int .i64 (wrap64 (t201 - 1))] rfl (by (try simp only [List.map_toArray, List.map_cons, List.map_nil]); first | done | rfl | (simp only [List.length_drop, List.length_take]; rfl)) ?_; (with_reducible refine (tax_Due.calls kj23 t196 _ _ t197 (wrap64 (t201 - 1)) t208 t209 _ ?side1 ?side2 A31.out (by first | exact hG | exact GOK.of_below hG (by repeat (first | (with_reducible first | exact HB.out | apply below_alloc | apply pw_below_drewN | apply below_drew1 | refine below_set ?_ GE200.out) | exact HB.out)) | (repeat (first | exact hG | apply GOK.drewN | apply GOK.drew)))).mono ?_); (case side1 => repeat (first | exact (Kd.R_reads' HO_201001.out).2.2 | (with_reducible refine Kd.C_alloc ?_ _) | (with_reducible refine Kd.C_drewN ?_ _) | (with_reducible refine Kd.C_drew ?_))); (case side2 => exact (Kd.R_reads' HO_201001.out).2.1); rintro e w36 ⟨rfl, hb⟩; refine ⟨_, rfl, ?_⟩; have n0_ := Aside0.mk (Kd.R_below (by (with_reducible repeat (first | apply Kd.R_alloc | apply Kd.R_drewN | apply Kd.R_drew)); exact HO_201001.out) hb); have n1_ := Aside0.mk (blk_below (g := gb200) (o := .cells #[.string t196, .slice Ao12 t197.length co12] 25 (0, 0)) (by (with_reducible repeat (first | refine blk_drewN ?_ _ | refine blk_drew ?_ | refine blk_alloc ?_ _)); exact BK200.out) hb); have n2_ := Aside0.mk (below_step (by repeat (first | (with_reducible first | exact HB.out | apply below_alloc | apply pw_below_drewN | apply below_drew1 | refine below_set ?_ GE200.out) | exact HB.out)) hb); clear HO_201001; clear BK200; clear HB; have HO_201001 := n0_; have BK200 := n1_; have HB := n2_; clear n0_ n1_ n2_; (try clear hb); (try clear hb2); (try clear hk); (try clear hi)))
                        go_meet
                        case rel => exact ⟨_, H', ⟨by have := HJ7.out; have := HJ23.out; first | omega | exact Nat.le_refl _⟩, ⟨by (with_reducible repeat (first | apply Kd.R_alloc | apply Kd.R_drewN | apply Kd.R_drew)); exact HO_201001.out⟩, ⟨by (with_reducible repeat (first | refine blk_drewN ?_ _ | refine blk_drew ?_ | refine blk_alloc ?_ _)); exact BK200.out⟩, ⟨by repeat (first | (with_reducible first | exact HB.out | apply below_alloc | apply pw_below_drewN | apply below_drew1 | refine below_set ?_ GE200.out) | exact HB.out)⟩⟩
                  · rw [if_neg c32] at H
                    have c32b0 : (t209 == 0) = false := beq_eq_false_iff_ne.mpr c32
                    have c32b1 : (t209 != 0) = true := bne_iff_ne.mpr c32
                    subst hT_
                    cases H
                · rw [if_neg c30] at H
                  have c30b0 : decide (0 < t201) = false := decide_eq_false c30
                  clear c30
                  (first | rw [c30b0] | (simp only [i64_w, i32_w]; rw [c30b0]) | skip)
                  have H' := Aside0.mk H
                  clear H
                  go_wp2
                  go_meet
                  case rel => exact ⟨_, H', ⟨by have := HJ7.out; have := HJ23.out; first | omega | exact Nat.le_refl _⟩, ⟨by (with_reducible repeat (first | apply Kd.R_alloc | apply Kd.R_drewN | apply Kd.R_drew)); exact HO_201001.out⟩, ⟨by (with_reducible repeat (first | refine blk_drewN ?_ _ | refine blk_drew ?_ | refine blk_alloc ?_ _)); exact BK200.out⟩, ⟨by repeat (first | (with_reducible first | exact HB.out | apply below_alloc | apply pw_below_drewN | apply below_drew1 | refine below_set ?_ GE200.out) | exact HB.out)⟩⟩
              case rest =>
                clear HC29
                try clear c1
                try clear c2
                try clear p2
                try clear c3
                try clear c4
                try clear c5
                try clear c6
                try clear p6
                try clear c7
                try clear c18
                try clear c18b0
                try clear c18b1
                try clear c19
                try clear c19b0
                try clear c19b1
                try clear c20
                try clear c20b0
                try clear c21
                try clear c21b0
                try clear c22
                try clear c27
                try clear c27b0
                try clear c27b1
                try clear c28
                try clear c30
                try clear c30b0
                try clear c32
                try clear c32b0
                try clear c32b1
                try clear c33
                try clear c33b0
                try clear c34
                try clear c34b0
                try clear hcz11_0
                try clear hcz11_1
                try clear hcz14_0
                try clear hcz14_1
                try clear hcz16_0
                try clear hcz16_1
                try clear hcz25_0
                try clear hcz25_1
                try clear hcz35_0
                try clear hcz35_1
                try clear hfz11_0
                try clear hfz11_1
                try clear hfz14_0
                try clear hfz14_1
                try clear hfz16_0
                try clear hfz16_1
                try clear hfz25_0
                try clear hfz25_1
                try clear hfz35_0
                try clear hfz35_1
                try clear p2
                try clear p6
                obtain ⟨kq, HA, HJ28, HO_201001, BK200, HB⟩ := hcut
                cases kq with
                | zero => exact absurd HA.out (by simp [worldmintlaw31_TaxSlope.j2])
                | succ kj28 =>
                  have H := HA.out
                  clear HA
                  simp only [worldmintlaw31_TaxSlope.j2] at H
                  replace H := Option.bind_eq_some_iff.mp H
                  obtain ⟨t210, A370, H⟩ := H
                  replace H : ((tax_Due.f kj28 t196 t197 t210).bind fun bt211 => ((tax_More.f kj28 t196 t197 t210 (wrap64 (t201 - t210))).bind fun bt213 => (if bt211.2 = 0 then (if bt213.2 = 0 then (if (wrap64 (bt211.1 + bt213.1)) = t202 then ((worldmintlaw31_lives.f kj28).bind fun t215 => (some t215)) else (some false)) else (some false)) else (some false)))) = some r := H
                  have A37 := Aside0.mk A370
                  clear A370
                  replace H := Option.bind_eq_some_iff.mp H
                  obtain ⟨⟨t211, t212⟩, A380, H⟩ := H
                  replace H : ((tax_More.f kj28 t196 t197 t210 (wrap64 (t201 - t210))).bind fun bt213 => (if t212 = 0 then (if bt213.2 = 0 then (if (wrap64 (t211 + bt213.1)) = t202 then ((worldmintlaw31_lives.f kj28).bind fun t215 => (some t215)) else (some false)) else (some false)) else (some false))) = some r := H
                  have A38 := Aside0.mk A380
                  clear A380
                  replace H := Option.bind_eq_some_iff.mp H
                  obtain ⟨⟨t213, t214⟩, A390, H⟩ := H
                  replace H : (if t212 = 0 then (if t214 = 0 then (if (wrap64 (t211 + t213)) = t202 then ((worldmintlaw31_lives.f kj28).bind fun t215 => (some t215)) else (some false)) else (some false)) else (some false)) = some r := H
                  have A39 := Aside0.mk A390
                  clear A390
                  by_cases c40 : t212 = 0
                  · rw [if_pos c40] at H
                    have c40b0 : (t212 == 0) = true := beq_iff_eq.mpr c40
                    have c40b1 : (t212 != 0) = false := bne_eq_false_iff_eq.mpr c40
                    clear c40
                    by_cases c41 : t214 = 0
                    · rw [if_pos c41] at H
                      have c41b0 : (t214 == 0) = true := beq_iff_eq.mpr c41
                      have c41b1 : (t214 != 0) = false := bne_eq_false_iff_eq.mpr c41
                      clear c41
                      by_cases c42 : (wrap64 (t211 + t213)) = t202
                      · rw [if_pos c42] at H
                        have c42b0 : ((wrap64 (t211 + t213)) == t202) = true := beq_iff_eq.mpr c42
                        have c42b1 : ((wrap64 (t211 + t213)) != t202) = false := bne_eq_false_iff_eq.mpr c42
                        clear c42
                        replace H := Option.bind_eq_some_iff.mp H
                        obtain ⟨t215, A430, H⟩ := H
                        replace H : (some t215) = some r := H
                        have A43 := Aside0.mk A430
                        clear A430
                        obtain rfl := Option.some.inj H
                        go_wp2_with (first | ((with_reducible refine gate_callee (f := 8) rfl ?_); refine goesL_ (some 104) rfl rfl Tryd.func8 (by kernel_rfl) rfl #[.int .i64 a2, .int .i64 (wrap64 (t201 + 1))] rfl (by (try simp only [List.map_toArray, List.map_cons, List.map_nil]); first | done | rfl | (simp only [List.length_drop, List.length_take]; rfl)) ?_; (with_reducible refine (worldmintref01_Around.calls a2 (wrap64 (t201 + 1)) t210 _ A37.out).mono ?_); rintro e w' ⟨rfl, ⟨nd, rfl⟩⟩; refine ⟨_, rfl, ?_⟩; have hcz44_0 : wc.cell? ⟨gb200, 0, none⟩ = some (.string t196) := (blk_cell BK200.out 0).trans rfl; have hcz44_1 : wc.cell? ⟨gb200, 1, none⟩ = some (.slice Ao12 t197.length co12) := (blk_cell BK200.out 1).trans rfl; have hfz44_0 := blk_frozen BK200.out 0; have hfz44_1 := blk_frozen BK200.out 1) | ((with_reducible refine gate_callee (f := 6) rfl ?_); refine goesL_ (some 108) rfl rfl Tryd.func6 (by kernel_rfl) rfl #[.agg #[.string t196, .slice Ao12 t197.length co12], .int .i64 t210] rfl (by (try simp only [List.map_toArray, List.map_cons, List.map_nil]); first | done | rfl | (simp only [List.length_drop, List.length_take]; rfl)) ?_; (with_reducible refine (tax_Due.calls kj28 t196 _ _ t197 t210 t211 t212 _ ?side1 ?side2 A38.out (by first | exact hG | exact GOK.of_below hG (by repeat (first | (with_reducible first | exact HB.out | apply below_alloc | apply pw_below_drewN | apply below_drew1 | refine below_set ?_ GE200.out) | exact HB.out)) | (repeat (first | exact hG | apply GOK.drewN | apply GOK.drew)))).mono ?_); (case side1 => repeat (first | exact (Kd.R_reads' HO_201001.out).2.2 | (with_reducible refine Kd.C_alloc ?_ _) | (with_reducible refine Kd.C_drewN ?_ _) | (with_reducible refine Kd.C_drew ?_))); (case side2 => exact (Kd.R_reads' HO_201001.out).2.1); rintro e w45 ⟨rfl, hb⟩; refine ⟨_, rfl, ?_⟩; have n0_ := Aside0.mk (Kd.R_below (by (with_reducible repeat (first | apply Kd.R_alloc | apply Kd.R_drewN | apply Kd.R_drew)); exact HO_201001.out) hb); have n1_ := Aside0.mk (blk_below (g := gb200) (o := .cells #[.string t196, .slice Ao12 t197.length co12] 25 (0, 0)) (by (with_reducible repeat (first | refine blk_drewN ?_ _ | refine blk_drew ?_ | refine blk_alloc ?_ _)); exact BK200.out) hb); have n2_ := Aside0.mk (below_step (by repeat (first | (with_reducible first | exact HB.out | apply below_alloc | apply pw_below_drewN | apply below_drew1 | refine below_set ?_ GE200.out) | exact HB.out)) hb); clear HO_201001; clear BK200; clear HB; have HO_201001 := n0_; have BK200 := n1_; have HB := n2_; clear n0_ n1_ n2_; (try clear hb); (try clear hb2); (try clear hk); (try clear hi); have hcz46_0 : w45.cell? ⟨gb200, 0, none⟩ = some (.string t196) := (blk_cell BK200.out 0).trans rfl; have hcz46_1 : w45.cell? ⟨gb200, 1, none⟩ = some (.slice Ao12 t197.length co12) := (blk_cell BK200.out 1).trans rfl; have hfz46_0 := blk_frozen BK200.out 0; have hfz46_1 := blk_frozen BK200.out 1) | ((with_reducible refine gate_callee (f := 9) rfl ?_); refine goesL_ (some 117) rfl rfl Tryd.func9 (by kernel_rfl) rfl #[.agg #[.string t196, .slice Ao12 t197.length co12], .int .i64 t210, .int .i64 (wrap64 (t201 - t210))] rfl (by (try simp only [List.map_toArray, List.map_cons, List.map_nil]); first | done | rfl | (simp only [List.length_drop, List.length_take]; rfl)) ?_; (with_reducible refine (tax_More.calls kj28 t196 _ _ t197 t210 (wrap64 (t201 - t210)) t213 t214 _ ?side1 ?side2 A39.out (by first | exact hG | exact GOK.of_below hG (by repeat (first | (with_reducible first | exact HB.out | apply below_alloc | apply pw_below_drewN | apply below_drew1 | refine below_set ?_ GE200.out) | exact HB.out)) | (repeat (first | exact hG | apply GOK.drewN | apply GOK.drew)))).mono ?_); (case side1 => repeat (first | exact (Kd.R_reads' HO_201001.out).2.2 | (with_reducible refine Kd.C_alloc ?_ _) | (with_reducible refine Kd.C_drewN ?_ _) | (with_reducible refine Kd.C_drew ?_))); (case side2 => exact (Kd.R_reads' HO_201001.out).2.1); rintro e w47 ⟨rfl, hb⟩; refine ⟨_, rfl, ?_⟩; have n0_ := Aside0.mk (Kd.R_below (by (with_reducible repeat (first | apply Kd.R_alloc | apply Kd.R_drewN | apply Kd.R_drew)); exact HO_201001.out) hb); have n1_ := Aside0.mk (blk_below (g := gb200) (o := .cells #[.string t196, .slice Ao12 t197.length co12] 25 (0, 0)) (by (with_reducible repeat (first | refine blk_drewN ?_ _ | refine blk_drew ?_ | refine blk_alloc ?_ _)); exact BK200.out) hb); have n2_ := Aside0.mk (below_step (by repeat (first | (with_reducible first | exact HB.out | apply below_alloc | apply pw_below_drewN | apply below_drew1 | refine below_set ?_ GE200.out) | exact HB.out)) hb); clear HO_201001; clear BK200; clear HB; have HO_201001 := n0_; have BK200 := n1_; have HB := n2_; clear n0_ n1_ n2_; (try clear hb); (try clear hb2); (try clear hk); (try clear hi)) | (go_at_call 10; (with_reducible refine (worldmintlaw31_lives.calls kj28  t215 _ A43.out (by first | exact hG | exact GOK.of_below hG (by repeat (first | (with_reducible first | exact HB.out | apply below_alloc | apply pw_below_drewN | apply below_drew1 | refine below_set ?_ GE200.out) | exact HB.out)) | (repeat (first | exact hG | apply GOK.drewN | apply GOK.drew))) (by first | exact hT_ | rfl)).mono ?_); rintro e w48 ⟨rfl, hb⟩; have n0_ := Aside0.mk (Kd.R_below (by (with_reducible repeat (first | apply Kd.R_alloc | apply Kd.R_drewN | apply Kd.R_drew)); exact HO_201001.out) hb); have n1_ := Aside0.mk (blk_below (g := gb200) (o := .cells #[.string t196, .slice Ao12 t197.length co12] 25 (0, 0)) (by (with_reducible repeat (first | refine blk_drewN ?_ _ | refine blk_drew ?_ | refine blk_alloc ?_ _)); exact BK200.out) hb); have n2_ := Aside0.mk (below_step (by repeat (first | (with_reducible first | exact HB.out | apply below_alloc | apply pw_below_drewN | apply below_drew1 | refine below_set ?_ GE200.out) | exact HB.out)) hb); clear HO_201001; clear BK200; clear HB; have HO_201001 := n0_; have BK200 := n1_; have HB := n2_; clear n0_ n1_ n2_; (try clear hb); (try clear hb2); (try clear hk); (try clear hi)))
                        go_ret
                        exact ⟨by first | rfl | (simp [errW_none, errW_some] <;> rfl) | (simp [*, errW_none, errW_some] <;> rfl), by repeat (first | (with_reducible first | exact HB.out | apply below_alloc | apply pw_below_drewN | apply below_drew1 | refine below_set ?_ GE200.out) | exact HB.out)⟩
                      · rw [if_neg c42] at H
                        have c42b0 : ((wrap64 (t211 + t213)) == t202) = false := beq_eq_false_iff_ne.mpr c42
                        have c42b1 : ((wrap64 (t211 + t213)) != t202) = true := bne_iff_ne.mpr c42
                        subst hT_
                        cases H
                    · rw [if_neg c41] at H
                      have c41b0 : (t214 == 0) = false := beq_eq_false_iff_ne.mpr c41
                      have c41b1 : (t214 != 0) = true := bne_iff_ne.mpr c41
                      subst hT_
                      cases H
                  · rw [if_neg c40] at H
                    have c40b0 : (t212 == 0) = false := beq_eq_false_iff_ne.mpr c40
                    have c40b1 : (t212 != 0) = true := bne_iff_ne.mpr c40
                    subst hT_
                    cases H

/-- THE ONE PURE STATEMENT of worldmintlaw31_TaxSlope: yours. -/
def worldmintlaw31_TaxSlope.Pure : Prop := ∀ (l0 : List Int) (a1 : Int) (a2 : Int), l0.length ≤ maxLen → l0.length * 8 ≤ 140737488351232 → (∀ x ∈ l0, (Lit.int .i64 x).wf = true) → (Lit.int .i64 a1).wf = true → (Lit.int .i64 a2).wf = true → ∃ k, worldmintlaw31_TaxSlope.f k l0 a1 a2 = some true
theorem worldmintlaw31_TaxSlope.walk (P : worldmintlaw31_TaxSlope.Pure) (a0 : Option Addr) (len0 cap0 : Nat) (z0 : List Int) (a1 : Int) (a2 : Int) (w : World) (w0 : (a0 = none ∧ len0 = 0 ∧ cap0 = 0 ∧ z0 = []) ∨ ∃ x, a0 = some x ∧ len0 ≤ cap0 ∧ cap0 ≤ maxLen ∧ z0.length = cap0 ∧ (∀ i, i < z0.length → w.cell? (x.add i) = some (.int .i64 (z0.getD i 0))) ∧ ∀ n ∈ z0, (Lit.int .i64 n).wf = true) (y0 : len0 * 8 ≤ 140737488351232) (w1 : (Lit.int .i64 a1).wf = true) (w2 : (Lit.int .i64 a2).wf = true) (hG : GOK w) :
    Calls Tryd.prog 3 #[.slice a0 len0 cap0, .int .i64 a1, .int .i64 a2] w fun e w' => e = .returned (.bool true) ∧ Below w.heap.size w w' := by
  obtain ⟨l0, rfl, hr0, hm0, hw0, hc0⟩ := ReadsInt.ofRowC w0
  obtain ⟨k, h⟩ := P l0 a1 a2 hm0 y0 hw0 w1 w2
  refine (worldmintlaw31_TaxSlope.calls k _ _ l0 a1 a2 true w (Kd.C_of_reads (d := (0 : Int)) (h1 := fun _ => rfl) hr0) hc0 h hG rfl).mono ?_
  rintro e w' ⟨rfl, hd⟩
  exact ⟨rfl, hd⟩

end Go.Proofs.YtmahdomlmidfdaaDoor.X
