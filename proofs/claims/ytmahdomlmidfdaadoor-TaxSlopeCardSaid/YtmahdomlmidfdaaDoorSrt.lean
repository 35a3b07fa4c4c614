/- slices.SortStableFunc at fewer than twenty ints, with the comparison of share.Split. -/
import Derived.Test.YtmahdomlmidfdaaDoorDvd
import Derived.Test.YtmahdomlmidfdaaDoorWWords
import Derived.Test.YtmahdomlmidfdaaDoorFlt
import Derived.BigRegion
import Derived.RegionTactic
import Derived.ChangeAlike
import Derived.Tactics2
import Derived.Deep.DeepCutAuto
namespace Go.Proofs.YtmahdomlmidfdaaDoor
open Go.RowKit Go.Shelf Go.Proofs.YtmahdomlmidfdaaDoorW.PrintWords
set_option linter.unusedVariables false

/-- Block g begins with the numbers D. -/
def Ints (w : World) (g : Nat) (D : List Int) : Prop := ∃ tl, w.heap[g]? = some (.cells (D.map (Value.int .i64) ++ tl).toArray 3 (0, 0))
theorem Ints.cell {w : World} {g : Nat} {D : List Int} (h : Ints w g D) (i : Nat) (hi : i < D.length) : w.cell? ⟨g, i, none⟩ = some (.int .i64 (D.getD i 0)) := by
  obtain ⟨tl, h⟩ := h
  rw [blk_cell h i, List.getElem?_toArray, List.getElem?_append_left (by simpa using hi), List.getElem?_map, List.getD_eq_getElem?_getD, List.getElem?_eq_getElem hi]
  rfl
theorem Ints.frozen {w : World} {g : Nat} {D : List Int} (h : Ints w g D) (i : Nat) : w.frozen? ⟨g, i, none⟩ = false := by
  obtain ⟨tl, h⟩ := h; exact blk_frozen h i
theorem Ints.lt {w : World} {g : Nat} {D : List Int} (h : Ints w g D) : g < w.heap.size := by
  obtain ⟨tl, h⟩ := h; exact blk_lt h
theorem Ints.set {w : World} {g : Nat} {D : List Int} (h : Ints w g D) (i : Nat) (hi : i < D.length) (x : Int) : Ints (w.setCell ⟨g, i, none⟩ (.int .i64 x)) g (D.set i x) := by
  obtain ⟨tl, h⟩ := h
  refine ⟨tl, (blk_set h i _).trans ?_⟩
  rw [List.setIfInBounds_toArray, List.set_append, if_pos (by simpa using hi), List.map_set]
theorem Ints.far {w : World} {g : Nat} {D : List Int} (h : Ints w g D) {p : Addr} (hp : g ≠ p.block) (u : Value) : Ints (w.setCell p u) g D := by
  obtain ⟨tl, h⟩ := h; exact ⟨tl, blk_far h hp u⟩
theorem Ints.drewN {w : World} {g : Nat} {D : List Int} (h : Ints w g D) (n : Nat) : Ints (w.drewN n) g D := h
theorem Ints.of_eq {w w' : World} {g : Nat} {D : List Int} (h : Ints w g D) (e : w'.heap[g]? = w.heap[g]?) : Ints w' g D := by
  obtain ⟨tl, h⟩ := h; exact ⟨tl, e.trans h⟩

set_option maxHeartbeats 1000000 in
theorem split_cmp (a b bx gr cap : Nat) (rest : List Int) (w : World) (hbx : w.heap[bx]? = some (.cells #[.slice (some ⟨gr, 0, none⟩) rest.length cap] 22 (0, 0))) (hr : Ints w gr rest) (ha : a < rest.length) (hb : b < rest.length) (hl : rest.length ≤ 1000)
    (hz : ∀ x ∈ rest, 0 ≤ x ∧ x < 4611686018427387904) :
    Calls Tryd.prog 24 #[.int .i64 a, .int .i64 b, .pointer (some ⟨bx, 0, none⟩)] w fun e w' => e = .returned (.int .i64 (rest.getD b 0 - rest.getD a 0)) ∧ ∃ n, w' = w.drewN n := by
  have x0 := blk_cell hbx 0
  simp only [List.getElem?_toArray, List.getElem?_cons_zero] at x0
  have xa := hr.cell a ha
  have xb := hr.cell b hb
  have za : 0 ≤ rest.getD a 0 ∧ rest.getD a 0 < 4611686018427387904 := by
    rw [List.getD_eq_getElem?_getD, List.getElem?_eq_getElem ha]; exact hz _ (List.getElem_mem ha)
  have zb : 0 ≤ rest.getD b 0 ∧ rest.getD b 0 < 4611686018427387904 := by
    rw [List.getD_eq_getElem?_getD, List.getElem?_eq_getElem hb]; exact hz _ (List.getElem_mem hb)
  generalize rest.getD a 0 = p at *
  generalize rest.getD b 0 = q at *
  have y1 : IntKind.i64.wrap (q - p) = q - p := IntWalk.i64_in _ (by omega)
  have aI : (a : Int) < (rest.length : Int) := by omega
  have bI : (b : Int) < (rest.length : Int) := by omega
  clear hbx hr hz
  go_enter Tryd.func24, Tryd.ntmps24
  go_wp2_with fail
  go_quiet (fail)
  clear y1
  go_wp2_with fail
  go_ret
  exact ⟨rfl, ⟨_, rfl⟩⟩

def insR (rest : List Int) (x : Int) : List Int → List Int
  | [] => [x]
  | y :: ys => if rest.getD y.toNat 0 - rest.getD x.toNat 0 < 0 then y :: insR rest x ys else x :: y :: ys
def srtR (rest : List Int) (acc : List Int) : List Int → List Int
  | [] => acc
  | x :: xs => srtR rest (insR rest x acc) xs
/-- The indices, stably sorted, those of greater rests first. -/
def sortS (rest D : List Int) : List Int := (srtR rest [] D).reverse
theorem insR_len (rest : List Int) (x : Int) : ∀ A, (insR rest x A).length = A.length + 1
  | [] => rfl
  | y :: ys => by
    unfold insR
    split
    · simp [insR_len rest x ys]
    · rfl
theorem insR_mem (rest : List Int) (x z : Int) : ∀ A, z ∈ insR rest x A → z = x ∨ z ∈ A
  | [], h => by simp [insR] at h; exact .inl h
  | y :: ys, h => by
    unfold insR at h
    split at h
    · rcases List.mem_cons.1 h with h | h
      · exact .inr (by simp [h])
      · rcases insR_mem rest x z ys h with h | h
        · exact .inl h
        · exact .inr (by simp [h])
    · rcases List.mem_cons.1 h with h | h
      · exact .inl h
      · exact .inr h
theorem srtR_snoc (rest : List Int) (x : Int) : ∀ (l acc : List Int), srtR rest acc (l ++ [x]) = insR rest x (srtR rest acc l)
  | [], acc => rfl
  | y :: l, acc => srtR_snoc rest x l (insR rest y acc)
theorem srtR_mem (rest : List Int) (z : Int) : ∀ (l acc : List Int), z ∈ srtR rest acc l → z ∈ acc ∨ z ∈ l
  | [], acc, h => .inl h
  | y :: l, acc, h => by
    rcases srtR_mem rest z l _ h with h | h
    · rcases insR_mem rest y z acc h with h | h
      · exact .inr (by simp [h])
      · exact .inl h
    · exact .inr (by simp [h])
theorem srtR_len (rest : List Int) : ∀ (l acc : List Int), (srtR rest acc l).length = acc.length + l.length
  | [], acc => rfl
  | y :: l, acc => by
    show (srtR rest (insR rest y acc) l).length = _
    rw [srtR_len rest l, insR_len]
    simp
    omega
theorem Ints.but {S : Nat → Prop} {w w' : World} {g : Nat} {D : List Int} (h : Ints w g D) (hb : But S w w') (hs : ¬ S g) : Ints w' g D := h.of_eq (hb.block g h.lt hs)
theorem getD_app (A B : List Int) (x : Int) (i : Nat) (hi : i = A.length) : (A ++ x :: B).getD i 0 = x := by
  subst hi
  simp [List.getD_eq_getElem?_getD]

theorem But.setCell {S : Nat → Prop} {w w' : World} (h : But S w w') {p : Addr} (hp : S p.block) (v : Value) : But S w (w'.setCell p v) := by
  have b := (Below.refl 0 w').setCell (p := p) (Nat.zero_le _) v
  exact ⟨b.os.trans h.os, b.tape.trans h.tape, b.output.trans h.output, Nat.le_trans h.size b.size, fun i hi hs => (Below.heap_setCell w' p v i (fun e => hs (by rw [e]; exact hp))).trans (h.block i hi hs)⟩
theorem set_two (P Q : List Int) (y x z : Int) (j : Nat) (hj : j = P.length + 1) : (P ++ y :: x :: Q).set j z = P ++ y :: z :: Q := by
  subst hj
  induction P with
  | nil => rfl
  | cons a P ih => simp
theorem set_one (P Q : List Int) (y x : Int) (j : Nat) (hj : j = P.length) : (P ++ y :: Q).set j x = P ++ x :: Q := by
  subst hj
  induction P with
  | nil => rfl
  | cons a P ih => simp
set_option maxRecDepth 100000 in
set_option maxHeartbeats 2000000 in
theorem ins_sort (g bx gr cap capg : Nat) (rest D : List Int) (w : World) (hbx : w.heap[bx]? = some (.cells #[.slice (some ⟨gr, 0, none⟩) rest.length cap] 22 (0, 0))) (hr : Ints w gr rest) (hD : Ints w g D) (hn : 0 < D.length) (hl : D.length ≤ 1000) (hrl : rest.length ≤ 1000)
    (hm : ∀ x ∈ D, 0 ≤ x ∧ x.toNat < rest.length) (hz : ∀ x ∈ rest, 0 ≤ x ∧ x < 4611686018427387904) (hg1 : bx ≠ g) (hg2 : gr ≠ g) :
    Calls Tryd.prog 40 #[.slice (some ⟨g, 0, none⟩) D.length capg, .int .i64 0, .int .i64 D.length, .func (.func 24) #[] #[.pointer (some ⟨bx, 0, none⟩)]] w fun e w' => e = .returned (.tuple #[]) ∧ Ints w' g (sortS rest D) ∧ But (· = g) w w' := by
  have HBX := Lib.hid hbx
  have HR := Lib.hid hr
  have HM := Lib.hid hm
  have HZ := Lib.hid hz
  clear hbx hr hm hz
  go_enter Tryd.func40, Tryd.ntmps40
  go_wp2_with fail
  go_loopw [8] (fun v wr => ∃ i : Nat, v = .int .i64 i ∧ 1 ≤ i ∧ i ≤ D.length ∧ Hid (Ints wr g ((srtR rest [] (D.take i)).reverse ++ D.drop i)) ∧ Hid (But (· = g) w wr)) (fun v _ => D.length - (intOf v).toNat)
  case atStart =>
    refine ⟨1, rfl, Nat.le_refl _, by omega, Lib.hid ?_, Lib.hid (But.refl _ _)⟩
    obtain ⟨d, D', rfl⟩ := List.exists_cons_of_ne_nil (List.ne_nil_of_length_pos hn)
    exact hD
  case round =>
    obtain ⟨i, rfl, h1, hi, HI, HB⟩ := hrel
    clear hD
    by_cases hlt : i < D.length
    · obtain ⟨wo, rfl⟩ : ∃ wo : World, wo = wr := ⟨_, rfl⟩
      obtain ⟨x, hx⟩ : ∃ x, D[i] = x := ⟨_, rfl⟩
      have hxm := HM.out x (by rw [← hx]; exact List.getElem_mem hlt)
      have hdr : D.drop i = x :: D.drop (i + 1) := by rw [drop_cons_of D i hlt, hx]
      have htk : D.take (i + 1) = D.take i ++ [x] := by rw [List.take_succ_eq_append_getElem hlt, hx]
      obtain ⟨Rv, hRv⟩ : ∃ Rv, srtR rest [] (D.take i) = Rv := ⟨_, rfl⟩
      have hRl : Rv.length = i := by rw [← hRv, srtR_len]; simp; omega
      have hRm : ∀ z ∈ Rv, 0 ≤ z ∧ z.toNat < rest.length := by
        intro z hz
        rw [← hRv] at hz
        rcases srtR_mem rest z _ _ hz with h | h
        · cases h
        · exact HM.out z (List.mem_of_mem_take h)
      have hS : srtR rest [] (D.take (i + 1)) = insR rest x Rv := by rw [htk, srtR_snoc, hRv]
      obtain ⟨T, hT⟩ : ∃ T, D.drop (i + 1) = T := ⟨_, rfl⟩
      have hTl : i + 1 + T.length = D.length := by rw [← hT]; simp; omega
      have HI' : Hid (Ints wo g (Rv.reverse ++ x :: ([] ++ T))) := Lib.hid (by have := HI.out; rw [hRv, hdr, hT] at this; exact this)
      have HS := Lib.hid hS
      have HT := Lib.hid hT
      have HRm := Lib.hid hRm
      clear hS hT hRm hdr htk hRv hx HI
      go_wp2_with fail
      go_loopw [9] (fun v wr => ∃ A B : List Int, v = .int .i64 A.length ∧ A.length ≤ i ∧ Hid (A.length + B.length = i ∧ (∀ z ∈ A, 0 ≤ z ∧ z.toNat < rest.length) ∧ (insR rest x A).reverse ++ B = (insR rest x Rv).reverse) ∧ Hid (Ints wr g (A.reverse ++ x :: (B ++ T))) ∧ Hid (But (· = g) wo wr)) (fun v _ => (intOf v).toNat)
      case atStart => exact ⟨Rv, [], by rw [hRl], by omega, Lib.hid ⟨by simpa using hRl, HRm.out, by simp⟩, HI', Lib.hid (But.refl _ _)⟩
      case round =>
        obtain ⟨A, B, rfl, hAi, HA, HJ, HBj⟩ := hrel
        have hLl : (A.reverse ++ x :: (B ++ T)).length = D.length := by have := HA.out.1; simp; omega
        cases A with
        | nil =>
          have j0 : decide ((0 : Int) < ((([] : List Int).length : Nat) : Int)) = false := by decide
          have hend : Hid (Ints wr g ((insR rest x Rv).reverse ++ T)) := Lib.hid (by
            have h3 := HA.out.2.2
            have := HJ.out
            rw [← h3]
            simpa [insR] using this)
          go_upto_region 4 with fail
          go_quiet (fail)
          clear j0
          go_wp2_with fail
          go_roundw
          case rel => exact ⟨i + 1, by go_num, by omega, by omega, Lib.hid (by rw [HS.out, HT.out]; exact hend.out), Lib.hid ((HB.out.trans HBj.out).trans (But.of_below (pw_below_drewN (Below.refl _ _) _)))⟩
          case measure => simp [intOf]; omega
        | cons y A =>
          obtain ⟨hlen, hmem, hres⟩ := HA.out
          have hy := hmem y (by simp)
          obtain ⟨j, hj⟩ : ∃ j, (y :: A).length = j := ⟨_, rfl⟩
          have hj1 : j = A.length + 1 := by rw [← hj]; rfl
          rw [hj] at hAi hlen ⊢
          have cx : wr.cell? ⟨g, j, none⟩ = some (.int .i64 x) := by
            have := HJ.out.cell j (by omega)
            rwa [getD_app _ _ _ _ (by simp [hj1])] at this
          have cy : wr.cell? ⟨g, j - 1, none⟩ = some (.int .i64 y) := by
            have := HJ.out.cell (j - 1) (by omega)
            rw [show (y :: A).reverse ++ x :: (B ++ T) = A.reverse ++ y :: (x :: (B ++ T)) by simp, getD_app _ _ _ _ (by simp; omega)] at this
            exact this
          have HY := Lib.hid hres
          have HMm := Lib.hid hmem
          have HLL := Lib.hid hLl
          have HJ1 := Lib.hid hj1
          obtain ⟨xn, rfl⟩ : ∃ xn : Nat, x = (xn : Int) := ⟨x.toNat, by omega⟩
          obtain ⟨yn, rfl⟩ : ∃ yn : Nat, y = (yn : Int) := ⟨y.toNat, by omega⟩
          have hx2 := hxm.2
          have hy2 := hy.2
          rw [Int.toNat_natCast] at hx2 hy2
          have hjp : 0 < j := by omega
          have hjD : j < D.length := by omega
          clear hres hmem hLl hj HA hj1
          have k1 : IntKind.i64.wrap ((j : Int) - 1) = (j : Int) - 1 := IntWalk.i64_in _ (by omega)
          have k2 : (0 : Int) ≤ (j : Int) - 1 := by omega
          have k3 : (1 : Int) ≤ (j : Int) := by omega
          have k4 : (j : Int) - 1 < (D.length : Int) := by omega
          have k5 : ((j : Int) - 1).toNat = j - 1 := by omega
          have k6 : (j : Int) < (D.length : Int) := by omega
          have k7 : decide ((0 : Int) < (j : Int)) = true := decide_eq_true (by omega)
          have k8 : (0 : Int) < (j : Int) := by omega
          have hbt : But (· = g) w wr := HB.out.trans HBj.out
          have CMP : ∀ W, (∃ m, W = wr.drewN m) → Calls Tryd.prog 24 #[.int .i64 xn, .int .i64 yn, .pointer (some ⟨bx, 0, none⟩)] W fun e w' => e = .returned (.int .i64 (rest.getD yn 0 - rest.getD xn 0)) ∧ ∃ n, w' = W.drewN n := by
            rintro W ⟨m, rfl⟩
            exact split_cmp xn yn bx gr cap rest _ ((hbt.block bx (blk_lt HBX.out) hg1).trans HBX.out) ((HR.out.but hbt hg2).drewN m) hx2 hy2 hrl HZ.out
          clear hbt
          have hstep : insR rest (xn : Int) ((yn : Int) :: A) = if rest.getD yn 0 - rest.getD xn 0 < 0 then (yn : Int) :: insR rest xn A else (xn : Int) :: (yn : Int) :: A := rfl
          obtain ⟨ry, hry⟩ : ∃ ry, rest.getD yn 0 = ry := ⟨_, rfl⟩
          obtain ⟨rx, hrx⟩ : ∃ rx, rest.getD xn 0 = rx := ⟨_, rfl⟩
          rw [hry, hrx] at hstep CMP
          clear hry hrx hx2 hy2 hxm hy
          have HST := Lib.hid hstep
          clear hstep
          by_cases hc : ry - rx < 0
          · have hc1 : decide (ry - rx < 0) = true := decide_eq_true hc
            go_upto_region 4 with fail
            go_quiet ((go_at_call 24; exact Calls.quiet_of (CMP _ ⟨_, rfl⟩)))
            go_upto_region 6 with fail
            have fx := HJ.out.frozen j
            have fy := HJ.out.frozen (j - 1)
            clear CMP
            go_region
            have hI2 : Ints (((wr.drewN (nq + 1)).setCell ⟨g, j, none⟩ (.int .i64 (yn : Int))).setCell ⟨g, j - 1, none⟩ (.int .i64 (xn : Int))) g (A.reverse ++ (xn : Int) :: (((yn : Int) :: B) ++ T)) := by
              have q1 := (HJ.out.drewN (nq + 1)).set j (by rw [HLL.out]; exact hjD) (yn : Int)
              have q2 := q1.set (j - 1) (by rw [List.length_set, HLL.out]; omega) (xn : Int)
              rw [show ((yn : Int) :: A).reverse ++ (xn : Int) :: (B ++ T) = A.reverse ++ (yn : Int) :: (xn : Int) :: (B ++ T) by simp, set_two _ _ _ _ _ j (by simp [HJ1.out]), set_one _ _ _ _ (j - 1) (by simp [HJ1.out])] at q2
              exact q2
            have hB2 : But (· = g) wr (((wr.drewN (nq + 1)).setCell ⟨g, j, none⟩ (.int .i64 (yn : Int))).setCell ⟨g, j - 1, none⟩ (.int .i64 (xn : Int))) := ((But.of_below (pw_below_drewN (Below.refl _ _) _)).setCell (by rfl) _).setCell (by rfl) _
            have HI2 := Lib.hid hI2
            have HB2 := Lib.hid (HBj.out.trans hB2)
            have hnew : Hid (A.length + ((yn : Int) :: B).length = i ∧ (∀ z ∈ A, 0 ≤ z ∧ z.toNat < rest.length) ∧ (insR rest (xn : Int) A).reverse ++ ((yn : Int) :: B) = (insR rest (xn : Int) Rv).reverse) := Lib.hid ⟨by rw [List.length_cons]; have := HJ1.out; omega, fun z hz => HMm.out z (by simp [hz]), by
              have h3 := HY.out
              have h4 := HST.out
              rw [if_pos hc] at h4
              rw [← h3, h4]
              simp⟩
            have hjA : (j : Int) - 1 = (A.length : Int) := by have := HJ1.out; omega
            have HJA := Lib.hid hjA
            clear hI2 hB2 fx fy cx cy hjA
            go_wp2_with fail
            go_roundw
            case rel => exact ⟨A, (yn : Int) :: B, by rw [← HJA.out], by have := HJ1.out; omega, hnew, HI2, HB2⟩
            case measure => simp [intOf]; omega
          · have hc1 : decide (ry - rx < 0) = false := decide_eq_false hc
            have hend : Hid (Ints wr g ((insR rest (xn : Int) Rv).reverse ++ T)) := Lib.hid (by
              have h3 := HY.out
              have h4 := HST.out
              rw [if_neg hc] at h4
              have := HJ.out
              rw [← h3, h4]
              simpa using this)
            go_upto_region 4 with fail
            go_quiet ((go_at_call 24; exact Calls.quiet_of (CMP _ ⟨_, rfl⟩)))
            clear k1 k2 k3 k4 k5 k6 k7 k8 CMP
            go_wp2_with fail
            go_roundw
            case rel => exact ⟨i + 1, by go_num, by omega, by omega, Lib.hid (by rw [HS.out, HT.out]; exact hend.out), Lib.hid ((HB.out.trans HBj.out).trans (But.of_below (pw_below_drewN (Below.refl _ _) _)))⟩
            case measure => simp [intOf]; omega
    · obtain rfl : i = D.length := by omega
      go_wp2_with fail
      refine bodyPost_end (by first | rfl | simp [results, go_sem]) rfl ⟨rfl, ?_, HB.out⟩
      have := HI.out
      simpa [sortS] using this
end Go.Proofs.YtmahdomlmidfdaaDoor
