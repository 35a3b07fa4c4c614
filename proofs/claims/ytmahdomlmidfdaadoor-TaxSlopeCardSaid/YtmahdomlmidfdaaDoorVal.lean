/- The walk of catalog.Valid at a catalog of one tax alone, and of tax.Valid. -/
import Derived.Test.YtmahdomlmidfdaaDoorFlt
namespace Go.Proofs.YtmahdomlmidfdaaDoor
open Go.RowKit Go.Shelf Go.Maps Go.Proofs.YtmahdomlmidfdaaDoorW.PrintWords
set_option linter.unusedVariables false

def g0 : Int → Bool := addF (fun _ => false) 4 false
/-- The faults of a catalog of one tax. -/
def oneTax (nm : List UInt8) (l : List (Int × Int)) : Int → Bool := taxSt (addF (addF g0 6 (!fitsL nm)) 8 false) l l.length
/-- The error of a catalog of one tax. -/
def validT (nm : List UInt8) (l : List (Int × Int)) : Int := firstF (oneTax nm l) [4, 6, 8, 1, 5]

set_option maxRecDepth 100000 in
set_option maxHeartbeats 2000000 in
theorem cat_valid1 (nm : ByteArray) (A : Option Addr) (l : List (Int × Int)) (cap T : Nat) (w : World) (hT : w.heap[T]? = some (.cells #[.string nm, .slice A l.length cap] 25 (0, 0))) (hnm : nm.size ≤ maxLen) (hl : l.length ≤ 140737488351232) (hr : RdB w A l) (hcap : l.length ≤ cap) (hG : GOK w) :
    Calls Tryd.prog 20 #[.agg #[.slice none 0 0, .slice none 0 0, .slice none 0 0, .slice (some ⟨T, 0, none⟩) 1 1]] w fun e w' => e = .returned (.int .i64 (validT nm.data.toList l)) ∧ Below w.heap.size w w' := by
  have HR := Lib.hid hr
  clear hr
  have hmm := @run_makeMap Tryd.prog
  go_enter Tryd.func20, Tryd.ntmps20
  go_wp2_with fail
  obtain ⟨fb, hfb⟩ : ∃ fb, w.heap.size + 1 = fb := ⟨_, rfl⟩
  obtain ⟨bx, hbx⟩ : ∃ bx, w.heap.size = bx := ⟨_, rfl⟩
  have hF0 : FB ((w.alloc (.cells #[.slice none 0 0, .slice none 0 0, .slice none 0 0, .slice (some ⟨T, 0, none⟩) 1 1] 53)).alloc (.map #[] 0)) fb 0 (fun _ => false) := by
    have := FB.made (w.alloc (.cells #[.slice none 0 0, .slice none 0 0, .slice none 0 0, .slice (some ⟨T, 0, none⟩) 1 1] 53))
    rwa [World.size_alloc, hfb] at this
  have hB0 : Below bx w ((w.alloc (.cells #[.slice none 0 0, .slice none 0 0, .slice none 0 0, .slice (some ⟨T, 0, none⟩) 1 1] 53)).alloc (.map #[] 0)) := by
    rw [← hbx]
    exact below_alloc (below_alloc (Below.refl _ _) _) _
  have hb0 : ((w.alloc (.cells #[.slice none 0 0, .slice none 0 0, .slice none 0 0, .slice (some ⟨T, 0, none⟩) 1 1] 53)).alloc (.map #[] 0)).heap[bx]? = some (.cells #[.slice none 0 0, .slice none 0 0, .slice none 0 0, .slice (some ⟨T, 0, none⟩) 1 1] 53 (0, 0)) := by
    rw [← hbx]
    exact blk_alloc (blk_new w _) _
  have hz0 : ((w.alloc (.cells #[.slice none 0 0, .slice none 0 0, .slice none 0 0, .slice (some ⟨T, 0, none⟩) 1 1] 53)).alloc (.map #[] 0)).heap.size = fb + 1 := by simp; omega
  rw [hfb, hbx]
  obtain ⟨W0, hW0⟩ : ∃ W0, (w.alloc (.cells #[.slice none 0 0, .slice none 0 0, .slice none 0 0, .slice (some ⟨T, 0, none⟩) 1 1] 53)).alloc (.map #[] 0) = W0 := ⟨_, rfl⟩
  rw [hW0] at hF0 hB0 hb0 hz0 ⊢
  have hne : ¬ bx = fb := by omega
  clear hW0
  have HX := Lib.hid hbx
  have HF := Lib.hid hfb
  have HZ := Lib.hid hz0
  clear hbx hfb
  refine (flt_add fb 0 _ 4 false _ hF0 (by decide) (by decide)).mono ?_
  rintro e w1 ⟨rfl, h1, hg1⟩
  have B1 := Lib.hid (But.of_grown hg1)
  have hb1 := (B1.out.block bx (blk_lt hb0) hne).trans hb0
  clear hg1 hF0 hb0
  have hb2 := blk_alloc hb1 (.map #[] 0)
  have hb3 := blk_alloc hb2 (.map #[] 0)
  have hb4 := blk_alloc hb3 (.map #[] 0)
  have hb5 := blk_alloc hb4 (.map #[] 0)
  have c10 := blk_cell hb1 0
  have c20 := blk_cell hb2 0
  have c31 := blk_cell hb3 1
  have c42 := blk_cell hb4 2
  have c53 := blk_cell hb5 3
  simp only [List.getElem?_toArray, List.getElem?_cons_zero, List.getElem?_cons_succ] at c10 c20 c31 c42 c53
  have HB5 := Lib.hid hb5
  clear hb1 hb2 hb3 hb4 hb5
  go_wp2_with fail
  go_loop [48] (fun v => v = .int .i64 0) (fun _ => 0)
  case atStart => rfl
  case round =>
    subst hrel
    go_wp2_with fail
    go_loop [65] (fun v => v = .int .i64 0) (fun _ => 0)
    case atStart => rfl
    case round =>
      subst hrel
      go_wp2_with fail
      go_loop [97] (fun v => v = .int .i64 0) (fun _ => 0)
      case atStart => rfl
      case round =>
        subst hrel
        go_wp2_with fail
        have hF5 := (((h1.alloc (.map #[] 0)).alloc (.map #[] 0)).alloc (.map #[] 0)).alloc (.map #[] 0)
        have hS5 := SB.made (((w1.alloc (.map #[] 0)).alloc (.map #[] 0)).alloc (.map #[] 0))
        simp only [World.size_alloc] at hS5
        have hbW : Below bx w w1 := hB0.trans (B1.out.below (by have := HZ.out; have := HF.out; have := HX.out; omega) (fun i hi => by subst hi; have := HF.out; have := HX.out; omega))
        have hb5 : Below bx w ((((w1.alloc (.map #[] 0)).alloc (.map #[] 0)).alloc (.map #[] 0)).alloc (.map #[] 0)) := by
          rw [← HX.out] at hbW ⊢
          exact below_alloc (below_alloc (below_alloc (below_alloc hbW _) _) _) _
        have hsz : ((((w1.alloc (.map #[] 0)).alloc (.map #[] 0)).alloc (.map #[] 0)).alloc (.map #[] 0)).heap.size = w1.heap.size + 4 := by simp
        have hfs : ¬ fb = w1.heap.size + 1 + 1 + 1 := by have := h1.lt; omega
        have hlt1 := h1.lt
        obtain ⟨sb, hsb⟩ : ∃ sb, w1.heap.size + 1 + 1 + 1 = sb := ⟨_, rfl⟩
        obtain ⟨W5, hW5⟩ : ∃ W5, (((w1.alloc (.map #[] 0)).alloc (.map #[] 0)).alloc (.map #[] 0)).alloc (.map #[] 0) = W5 := ⟨_, rfl⟩
        rw [hsb] at hS5 hfs ⊢
        rw [hW5] at hF5 hS5 hb5 hsz ⊢
        rw [← HX.out] at hb5
        have hsb1 : bx ≤ sb := by have := HF.out; have := HX.out; omega
        have hTW : W5.heap[T]? = some (.cells #[.string nm, .slice A l.length cap] 25 (0, 0)) := (hb5.block T (blk_lt hT)).trans hT
        have hTn : ¬ T = fb := by have := blk_lt hT; have := HF.out; omega
        have hTn2 : ¬ T = sb := by have := blk_lt hT; have := HX.out; omega
        have hrW := HR.out.below hb5
        have hGW := hG.of_below hb5
        have hAb : ∀ ad, A = some ad → 0 < l.length → ad.block < w.heap.size := by
          intro ad e hp
          obtain ⟨ad', e', hx, _⟩ := HR.out 0 hp
          rw [e] at e'
          cases e'
          have := World.block_lt_of_cell? w _ hx
          rw [add_block] at this
          exact this
        have k0 := blk_cell hTW 0
        have k1 := blk_cell hTW 1
        simp only [List.getElem?_toArray, List.getElem?_cons_zero, List.getElem?_cons_succ] at k0 k1
        have HSB := Lib.hid hsb
        have HSZ := Lib.hid hsz
        have HBB := Lib.hid hb5
        have HTW := Lib.hid hTW
        have HAB := Lib.hid hAb
        have HNE := Lib.hid hne
        clear hW5 hsb hsz hb5 hTW hbW c10 c20 c31 c42 c53 h1 hAb hne hB0 hT HB5 hz0
        go_loopw [127] (fun v wr => (v = .int .i64 0 ∧ wr = W5) ∨ (v = .int .i64 1 ∧ ∃ n, FB wr fb n (oneTax nm.data.toList l) ∧ Below w.heap.size w wr)) (fun v _ => 1 - (intOf v).toNat)
        case atStart => exact .inl ⟨rfl, rfl⟩
        case round =>
          rcases hrel with ⟨rfl, rfl⟩ | ⟨rfl, n, hfn, hbn⟩
          · go_wp2_with fail
            have hba := below_alloc (Below.refl wr.heap.size wr) (.cells #[.string nm, .slice A l.length cap] 25)
            have hF6 := hF5.below hba
            have hS6 := hS5.below hba
            have hG6 := hGW.of_below hba
            have hb6 : But (fun i => i = fb ∨ i = sb) wr (wr.alloc (.cells #[.string nm, .slice A l.length cap] 25)) := But.of_below hba
            have x0 : (wr.alloc (.cells #[.string nm, .slice A l.length cap] 25)).cell? ⟨wr.heap.size, 0, none⟩ = some (.string nm) := blk_cell (blk_new wr _) 0
            have x1 : (wr.alloc (.cells #[.string nm, .slice A l.length cap] 25)).cell? ⟨wr.heap.size, 1, none⟩ = some (.slice A l.length cap) := blk_cell (blk_new wr _) 1
            have hnx : ¬ (wr.heap.size = fb ∨ wr.heap.size = sb) := by have := hF5.lt; have := hS5.lt; omega
            refine (flt_name fb (0 + 1) sb 0 _ _ nm _ hF6 hS6 (by decide) (by decide) hnm hfs hG6).mono ?_
            rintro e w7 ⟨rfl, hF7, hS7, hB7⟩
            have y0 := hB7.cell x0 hnx
            have y1 := hB7.cell x1 hnx
            have HB7 := Lib.hid (hb6.trans hB7)
            have hr7 : RdB w7 A l := by
              intro i hi
              obtain ⟨ad, e, h1, h2⟩ := hrW i hi
              have hlt := HAB.out ad e (by omega)
              have hn : ¬ ((ad.add (i * 2)).block = fb ∨ (ad.add (i * 2)).block = sb) := by rw [add_block]; have := HX.out; have := HF.out; omega
              exact ⟨ad, e, HB7.out.cell h1 hn, HB7.out.cell h2 hn⟩
            clear x0 x1 hF6 hS6 hG6 hba hb6 hB7 k0 k1 hS7
            go_wp2_with fail
            refine (flt_tax fb (0 + 1 + 2) _ nm A l cap w7 hF7 (by unfold maxLen; omega) hl hr7 hcap (fun ad e hp => by have := HAB.out ad e hp; have := HX.out; have := HF.out; omega)).mono ?_
            rintro e w8 ⟨rfl, hF8, hB8⟩
            have HB8 := Lib.hid (HB7.out.trans (hB8.mono (fun i hi => .inl hi)))
            clear hF7 hB8 y0 y1 hr7
            go_wp2_with fail
            go_roundw
            case rel => exact .inr ⟨by rfl, _, hF8, HBB.out.trans (HB8.out.below HBB.out.size (fun i hi => by have := HX.out; have := HF.out; omega))⟩
            case measure => simp [intOf]
          · go_wp2_with fail
            have hba := below_alloc (Below.refl wr.heap.size wr) (.cells #[.int .i64 4, .int .i64 6, .int .i64 8, .int .i64 1, .int .i64 5] 28)
            refine (flt_first fb n _ [4, 6, 8, 1, 5] wr.heap.size 5 _ (hfn.below hba) (by decide) (by decide) (fun i hi => ?_)).mono ?_
            · rw [blk_cell (blk_new wr _) i]
              simp at hi
              rcases i with _ | _ | _ | _ | _ | i <;> first | rfl | omega
            · rintro e w9 ⟨rfl, rfl⟩
              go_wp2_with fail
              go_ret
              exact ⟨rfl, hbn.trans (hba.mono hbn.size)⟩

set_option maxHeartbeats 1000000 in
theorem tax_valid (nm : ByteArray) (A : Option Addr) (l : List (Int × Int)) (cap : Nat) (w : World) (hnm : nm.size ≤ maxLen) (hl : l.length ≤ 140737488351232) (hr : RdB w A l) (hcap : l.length ≤ cap) (hG : GOK w) :
    Calls Tryd.prog 18 #[.agg #[.string nm, .slice A l.length cap]] w fun e w' => e = .returned (.int .i64 (validT nm.data.toList l)) ∧ Below w.heap.size w w' := by
  have HR := Lib.hid hr
  clear hr
  go_enter Tryd.func18, Tryd.ntmps18
  go_wp2_with fail
  have hb : Below w.heap.size w ((w.alloc (.cells #[.string nm, .slice A l.length cap] 25)).alloc (.cells #[.string nm, .slice A l.length cap] 25)) := below_alloc (below_alloc (Below.refl _ _) _) _
  refine (cat_valid1 nm A l cap (w.heap.size + 1) _ ?_ hnm hl (HR.out.below hb) hcap (hG.of_below hb)).mono ?_
  · have := blk_new (w.alloc (.cells #[.string nm, .slice A l.length cap] 25)) (.cells #[.string nm, .slice A l.length cap] 25)
    rwa [World.size_alloc] at this
  · rintro e w1 ⟨rfl, hb1⟩
    go_wp2_with fail
    go_ret
    exact ⟨rfl, hb.trans (hb1.mono hb.size)⟩
end Go.Proofs.YtmahdomlmidfdaaDoor
