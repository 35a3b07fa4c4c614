/- tax.Net, in the printed functions' form; sort.Search at its function. -/
import Derived.Test.YtmahdomlmidfdaaDoorXx1
import Derived.Deep.RegionHeld3
import Derived.Lib.Hide
namespace Go.Proofs.YtmahdomlmidfdaaDoor.X
open Go.RowKit Go.Proofs.YtmahdomlmidfdaaDoorW.PrintWords Go.Proofs.YtmahdomlmidfdaaDoorW.PrintLast Go.Proofs.YtmahdomlmidfdaaDoorW.PrintMore
set_option linter.unusedVariables false

def netP (nm : ByteArray) (l : List S37) (net k : Int) : Option Bool := (tax_due.f 1000 nm l k).bind fun d => some (decide (net < wrap64 (k - d)))
def netS (nm : ByteArray) (l : List S37) (net : Int) : Nat → Int → Int → Option Int
  | 0, _, _ => none
  | n + 1, i, j => if i < j then (netP nm l net ((i + j) / 2)).bind fun b => if b = true then netS nm l net n i ((i + j) / 2) else netS nm l net n ((i + j) / 2 + 1) j else some i
def tax_Net.f (a0_0 : ByteArray) (l0_1 : List S37) (a1 : Int) : Option (Int × Int) :=
  (tax_check.f 1000 a0_0 l0_1 [a1]).bind fun e => if e = 0 then (netS a0_0 l0_1 a1 1000 0 1099511627777).bind fun s => some (wrap64 (s - 1), 0) else some (0, e)

set_option maxRecDepth 100000 in
set_option maxHeartbeats 1000000 in
theorem net1 (nm : ByteArray) (A : Option Addr) (c : Nat) (l : List S37) (net k : Int) (bt bn : Nat) (b : Bool) (w : World) (hr : Kd.C k37 w A l.length l) (hc : l.length ≤ c)
    (hbt : w.heap[bt]? = some (.cells #[.string nm, .slice A l.length c] 25 (0, 0))) (hbn : w.heap[bn]? = some (.cells #[.int .i64 net] 3 (0, 0))) (h : netP nm l net k = some b) :
    Calls Tryd.prog 15 #[.int .i64 k, .pointer (some ⟨bt, 0, none⟩), .pointer (some ⟨bn, 0, none⟩)] w fun e w' => e = .returned (.bool b) ∧ Below w.heap.size w w' := by
  unfold netP at h
  obtain ⟨d, hd, h⟩ := Option.bind_eq_some_iff.mp h
  injection h with h
  have x0 := blk_cell hbt 0
  have x1 := blk_cell hbt 1
  have y0 := blk_cell hbn 0
  simp only [List.getElem?_toArray, List.getElem?_cons_zero, List.getElem?_cons_succ] at x0 x1 y0
  have HR := Lib.hid hr
  have HD := Lib.hid hd
  have HH := Lib.hid h
  clear hr hd h hbt hbn
  go_enter Tryd.func15, Tryd.ntmps15
  go_wp2_with fail
  go_region_held3 (fun w' => w'.cell? ⟨bt, 0, none⟩ = some (.string nm) ∧ w'.cell? ⟨bt, 1, none⟩ = some (.slice A l.length c) ∧ w'.cell? ⟨bn, 0, none⟩ = some (.int .i64 net)) (go_keep)
    (first
      | (go_at_call 13; refine (tax_due.calls 1000 nm A c l k d _ (Kd.C_drew HR.out) hc HD.out).mono ?_; rintro e w' ⟨rfl, hb⟩; have z0 := pw_cell_below (w := w.drew) hb x0; have z1 := pw_cell_below (w := w.drew) hb x1; have z2 := pw_cell_below (w := w.drew) hb y0; have HB := Lib.hid hb; clear hb))
  all_goals
    go_wp2_with fail
    go_ret
    refine ⟨?_, (below_drew (Below.refl w.heap.size w)).trans HB.out⟩
    rw [← HH.out]
    show Ending.returned (.bool (decide (net < IntKind.i64.wrap (k - d)))) = _
    rw [show IntKind.i64.wrap (k - d) = wrap64 (k - d) from by rw [IntKind.wrap_i64]; unfold wrap64; omega]

set_option maxRecDepth 100000 in
set_option maxHeartbeats 1000000 in
theorem net_search (nm : ByteArray) (A : Option Addr) (c : Nat) (l : List S37) (net r : Int) (bt bn : Nat) (w : World) (hr : Kd.C k37 w A l.length l) (hc : l.length ≤ c)
    (hbt : w.heap[bt]? = some (.cells #[.string nm, .slice A l.length c] 25 (0, 0))) (hbn : w.heap[bn]? = some (.cells #[.int .i64 net] 3 (0, 0))) (h : netS nm l net 1000 0 1099511627777 = some r) :
    Calls Tryd.prog 14 #[.int .i64 1099511627777, .func (.func 15) #[] #[.pointer (some ⟨bt, 0, none⟩), .pointer (some ⟨bn, 0, none⟩)]] w fun e w' => e = .returned (.int .i64 r) ∧ Below w.heap.size w w' := by
  have HR := Lib.hid hr
  have HT := Lib.hid hbt
  have HN := Lib.hid hbn
  have HH := Lib.hid h
  clear hr hbt hbn h
  go_enter Tryd.func14, Tryd.ntmps14
  go_wp2_with fail
  go_loopw [5, 6] (fun vi vj wr => ∃ (n : Nat) (i j : Int), vi = .int .i64 i ∧ vj = .int .i64 j ∧ 0 ≤ i ∧ i ≤ j ∧ j ≤ 1099511627777 ∧ Hid (netS nm l net n i j = some r) ∧ Hid (Below w.heap.size w wr)) (fun vi vj _ => (intOf vj - intOf vi).toNat)
  case atStart => exact ⟨1000, 0, 1099511627777, rfl, rfl, by omega, by omega, by omega, HH, Lib.hid (Below.refl _ _)⟩
  case round =>
    obtain ⟨n, i, j, rfl, rfl, h0, hij, hj, hs, hb⟩ := hrel
    obtain ⟨n, rfl⟩ : ∃ m, n = m + 1 := by
      cases n with
      | zero => exact absurd hs.out (by simp [netS])
      | succ n => exact ⟨n, rfl⟩
    have hs' := hs.out
    simp only [netS] at hs'
    by_cases hlt : i < j
    · rw [if_pos hlt] at hs'
      obtain ⟨b, hp, hs'⟩ := Option.bind_eq_some_iff.mp hs'
      have HP := Lib.hid hp
      have HS := Lib.hid hs'
      clear hs hp hs'
      have m0 : 0 ≤ (i + j) / 2 := by omega
      have m1 : i ≤ (i + j) / 2 := by omega
      have m2 : (i + j) / 2 < j := by omega
      obtain ⟨m, hm⟩ : ∃ m, (i + j) / 2 = m := ⟨_, rfl⟩
      rw [hm] at HP HS m0 m1 m2
      have HM := Lib.hid hm
      clear hm
      go_wp2_with fail
      rw [HM.out]
      refine (net1 nm A c l net m bt bn b wr (Kd.C_below HR.out hb.out) hc ((hb.out.block bt (blk_lt HT.out)).trans HT.out) ((hb.out.block bn (blk_lt HN.out)).trans HN.out) HP.out).mono ?_
      rintro e w2 ⟨rfl, hb2⟩
      have HB2 := Lib.hid (hb.out.trans (hb2.mono hb.out.size))
      clear hb2 HM
      cases b
      · have HS' : Hid (netS nm l net n (m + 1) j = some r) := Lib.hid (by have := HS.out; simpa using this)
        go_wp2_with fail
        go_roundw
        case rel => exact ⟨n, m + 1, j, by rfl, by rfl, by omega, by omega, by omega, HS', HB2⟩
        case measure => simp [intOf]; omega
      · have HS' : Hid (netS nm l net n i m = some r) := Lib.hid (by have := HS.out; simpa using this)
        go_wp2_with fail
        go_roundw
        case rel => exact ⟨n, i, m, by rfl, by rfl, by omega, by omega, by omega, HS', HB2⟩
        case measure => simp [intOf]; omega
    · rw [if_neg hlt] at hs'
      injection hs' with hs'
      go_wp2_with fail
      go_ret
      exact ⟨by rw [← hs']; rfl, hb.out⟩
theorem int_one (W : World) (x : Int) (t : TypeId) : Kd.C (Kd.int .i64) (W.alloc (.cells #[.int .i64 x] t)) (some ⟨W.heap.size, 0, none⟩) [x].length [x] := by
  refine Kd.C_of_reads (d := (0 : Int)) ⟨rfl, by simp, fun _ => ⟨_, rfl, fun j hj => ?_⟩⟩
  obtain rfl : j = 0 := by simpa using hj
  have := blk_cell (blk_new W (.cells #[.int .i64 x] t)) 0
  simp [Addr.add]
set_option maxRecDepth 100000 in
set_option maxHeartbeats 1000000 in
theorem tax_Net.calls (a0_0 : ByteArray) (A0_1 : Option Addr) (c0_1 : Nat) (l0_1 : List S37) (a1 r1 r2 : Int) (w : World) (hr0_1 : Kd.C k37 w A0_1 l0_1.length l0_1) (hc0_1 : l0_1.length ≤ c0_1) (h : tax_Net.f a0_0 l0_1 a1 = some (r1, r2)) (hG : GOK w) :
    Calls Tryd.prog 7 #[.agg #[.string a0_0, .slice A0_1 l0_1.length c0_1], .int .i64 a1] w fun e w' => e = .returned (.tuple #[.int .i64 r1, .int .i64 r2]) ∧ Below w.heap.size w w' := by
  unfold tax_Net.f at h
  obtain ⟨e, he, h⟩ := Option.bind_eq_some_iff.mp h
  have HR := Lib.hid hr0_1
  have HE := Lib.hid he
  have HH := Lib.hid h
  clear hr0_1 he h
  go_enter Tryd.func7, Tryd.ntmps7
  go_wp2_with fail
  have e1 : ((w.alloc (.cells #[.string a0_0, .slice A0_1 l0_1.length c0_1] 25)).alloc (.cells #[.int .i64 a1] 3)).heap.size = w.heap.size + 1 + 1 := by simp
  have hb : Below w.heap.size w (((w.alloc (.cells #[.string a0_0, .slice A0_1 l0_1.length c0_1] 25)).alloc (.cells #[.int .i64 a1] 3)).alloc (.cells #[.int .i64 a1] 3)) := below_alloc (below_alloc (below_alloc (Below.refl _ _) _) _) _
  have hC := int_one ((w.alloc (.cells #[.string a0_0, .slice A0_1 l0_1.length c0_1] 25)).alloc (.cells #[.int .i64 a1] 3)) a1 3
  rw [e1] at hC
  have t1 : (((w.alloc (.cells #[.string a0_0, .slice A0_1 l0_1.length c0_1] 25)).alloc (.cells #[.int .i64 a1] 3)).alloc (.cells #[.int .i64 a1] 3)).heap[w.heap.size]? = some (.cells #[.string a0_0, .slice A0_1 l0_1.length c0_1] 25 (0, 0)) := blk_alloc (blk_alloc (blk_new w _) _) _
  have t2 : (((w.alloc (.cells #[.string a0_0, .slice A0_1 l0_1.length c0_1] 25)).alloc (.cells #[.int .i64 a1] 3)).alloc (.cells #[.int .i64 a1] 3)).heap[w.heap.size + 1]? = some (.cells #[.int .i64 a1] 3 (0, 0)) := by
    have := blk_alloc (blk_new (w.alloc (.cells #[.string a0_0, .slice A0_1 l0_1.length c0_1] 25)) (.cells #[.int .i64 a1] 3)) (.cells #[.int .i64 a1] 3)
    rwa [World.size_alloc] at this
  clear e1
  obtain ⟨W, hW⟩ : ∃ W, (((w.alloc (.cells #[.string a0_0, .slice A0_1 l0_1.length c0_1] 25)).alloc (.cells #[.int .i64 a1] 3)).alloc (.cells #[.int .i64 a1] 3)) = W := ⟨_, rfl⟩
  rw [hW] at hb hC t1 t2 ⊢
  have HB := Lib.hid hb
  have T1 := Lib.hid t1
  have T2 := Lib.hid t2
  clear hW hb t1 t2
  refine (tax_check.calls 1000 a0_0 A0_1 c0_1 l0_1 _ 1 [a1] e W (Kd.C_below HR.out HB.out) hc0_1 hC (Nat.le_refl 1) HE.out (hG.of_below HB.out)).mono ?_
  rintro e' w1 ⟨rfl, hb1⟩
  have HB1 := Lib.hid (HB.out.trans (hb1.mono HB.out.size))
  have T11 := Lib.hid ((hb1.block _ (blk_lt T1.out)).trans T1.out)
  have T21 := Lib.hid ((hb1.block _ (blk_lt T2.out)).trans T2.out)
  clear hb1 T1 T2 hC
  by_cases h0 : e = 0
  · have hs := HH.out
    rw [if_pos h0] at hs
    obtain ⟨s, hs2, hr⟩ := Option.bind_eq_some_iff.mp hs
    injection hr with hr
    injection hr with hr1 hr2
    subst hr1 hr2
    subst h0
    have HS := Lib.hid hs2
    clear hs hs2
    go_wp2_with fail
    refine (net_search a0_0 A0_1 c0_1 l0_1 a1 s _ _ w1 (Kd.C_below HR.out HB1.out) hc0_1 T11.out T21.out HS.out).mono ?_
    rintro e' w2 ⟨rfl, hb2⟩
    have HB2 := Lib.hid (HB1.out.trans (hb2.mono HB1.out.size))
    clear hb2
    go_wp2_with fail
    go_ret2
    exact ⟨rfl, HB2.out⟩
  · have hs := HH.out
    rw [if_neg h0] at hs
    injection hs with hs
    injection hs with hr1 hr2
    subst hr1 hr2
    have h1 : ((e : Int) != 0) = true := by simpa using h0
    clear h0
    go_wp2_with fail
    go_ret2
    exact ⟨rfl, HB1.out⟩
end Go.Proofs.YtmahdomlmidfdaaDoor.X
