import Derived.Test.YtlceokefdihdkaaGreatDoorPw
import Derived.Test.YtlceokefdihdkaaGreatDoorXx0
import Derived.Test.YtlceokefdihdkaaGreatDoorXx1
import Derived.Test.YtlceokefdihdkaaGreatDoorXx10
import Derived.Test.YtlceokefdihdkaaGreatDoorXx2
import Derived.Test.YtlceokefdihdkaaGreatDoorXx3
import Derived.Test.YtlceokefdihdkaaGreatDoorXx4
import Derived.Test.YtlceokefdihdkaaGreatDoorXx5
import Derived.Test.YtlceokefdihdkaaGreatDoorXx6
import Derived.Test.YtlceokefdihdkaaGreatDoorXx7
import Derived.Test.YtlceokefdihdkaaGreatDoorXx8
import Derived.Test.YtlceokefdihdkaaGreatDoorXx9
namespace Go.Proofs.YtlceokefdihdkaaGreatDoor
open Go.RowKit Go.Proofs.YtlceokefdihdkaaGreatDoorW.PrintWords Go.Proofs.YtlceokefdihdkaaGreatDoorW.PrintLast Go.Proofs.YtlceokefdihdkaaGreatDoorW.PrintMore
open X Go.Lib
set_option linter.unusedSimpArgs false
set_option linter.unusedVariables false
theorem lim_pow : (2 : Int) ^ 16384 = lim := by unfold lim; decide +kernel
theorem lim_dec : (10000 : Int) ^ 1229 < lim := by unfold lim; decide +kernel
theorem fits_ev {L : Nat} {n : Bool} {D : List Int} {z : Int} (h : RI 10000 L n D z) (hL : L < 1000000) : Ev (fun k => worldmintref05_Fits.f k n D) (decide (bv 10000 D < lim)) := by
 have hlen := h.len
 unfold worldmintref05_Fits.f
 by_cases hs : (D.length : Int) < 1230
 ·refine Ev.pos hs ((Ev.ok _).cast ?_)
  have h1 := bv_lt (B := 10000) (by decide) h.wf
  have h2 : (10000 : Int) ^ D.length ≤ 10000 ^ 1229 := by
   have := Nat.pow_le_pow_right (show 0 < 10000 by decide) (show D.length ≤ 1229 by omega)
   have e : ∀ n : Nat, (10000 : Int) ^ n = ((10000 ^ n : Nat) : Int) := fun n => by rw [Int.natCast_pow]; rfl
   rw [e, e]
   omega
  have h3 := lim_dec
  rw [decide_eq_true (by omega)]
 ·obtain ⟨n2, P, g2, r2⟩ := power_gives 15 16384 (by decide) (by decide) (by decide)
  rw [lim_pow] at r2
  have hl0 := lim_big
  have hP : bv 10000 P = lim := by rw [r2.abs (by decide), if_neg (by omega)]
  have hc := rcompared_ev (by decide) h.wf r2.wf h.nrm r2.nrm (by omega)
  rw [hP] at hc
  refine Ev.neg hs (Ev.bind g2 (Ev.bind hc ((Ev.ok _).cast ?_)))
  by_cases hb : bv 10000 D < lim
  ·rw [cmpI_lt hb, decide_eq_true hb]; rfl
  ·have : ¬ cmpI (bv 10000 D) lim < 0 := by unfold cmpI; (repeat' split) <;> omega
   rw [decide_eq_false this, decide_eq_false hb]
theorem rp_l2 {neg : Bool} {d : List UInt8} {x7 : List Int} {x8 : Nat} (hd : ∀ c, c ∈ d → isDig c) (h8 : x8 ≤ d.length) (hl : d.length ≤ 5000) (h7 : x7.length ≤ 5000) {r : Bool × List Int × Int} : ∀ (n s acc : Nat), s + n = x8 → (acc + 1) * 10 ^ n ≤ 10000 →
  Ev (fun k => worldmintref05_Parse.l1 k neg ⟨d.toArray⟩ (x7 ++ [(dval acc ((d.drop s).take n) : Int)]) (wrap64 ((x8 : Int) - 4))) r →
  Ev (fun k => worldmintref05_Parse.l2 k neg ⟨d.toArray⟩ x7 (x8 : Int) (acc : Int) (s : Int)) r := by
 intro n
 induction n with
 | zero =>
  intro s acc h1 h2 h
  refine Ev.up ?_
  simp only [worldmintref05_Parse.l2]
  refine Ev.neg (by omega) (Ev.pos (by omega) ?_)
  rw [List.take_zero, dval_nil] at h
  exact h
 | succ n ih =>
  intro s acc h1 h2 h
  have hs : s < d.length := by omega
  have q1 : (s : Int) < (x8 : Int) := by omega
  have q2 : (0 : Int) ≤ (s : Int) := by omega
  have q3 : (s : Int) < ((⟨d.toArray⟩ : ByteArray).size : Int) := by rw [bs_size]; omega
  have q4 : s + 1 + n = x8 := by omega
  have hc : isDig d[s] := hd _ (List.getElem_mem hs)
  have hb : bt ⟨d.toArray⟩ (s : Int) = (d[s].toNat : Int) := bt_at0 d s d[s] (List.getElem?_eq_getElem hs)
  have hg : dgv d[s] = d[s].toNat - 48 := rfl
  obtain ⟨c1, c2⟩ := hc
  have hacc : (acc * 10 + dgv d[s] + 1) * 10 ^ n ≤ 10000 := by
   rw [Nat.pow_succ] at h2
   have : (acc * 10 + dgv d[s] + 1) * 10 ^ n ≤ ((acc + 1) * 10) * 10 ^ n := Nat.mul_le_mul_right _ (by omega)
   have e : (acc + 1) * (10 ^ n * 10) = ((acc + 1) * 10) * 10 ^ n := by rw [Nat.mul_assoc, Nat.mul_comm 10]
   omega
  have hp : 1 ≤ 10 ^ n := Nat.one_le_pow _ _ (by decide)
  have hsm : acc * 10 + dgv d[s] + 1 ≤ 10000 := Nat.le_trans (Nat.le_mul_of_pos_right _ (by omega)) hacc
  have e1 : wrap64 (wrap64 (10 * (acc : Int)) + ((d[s].toNat : Int) - 48) % 256) = ((acc * 10 + dgv d[s] : Nat) : Int) := by
   rw [wrap_id (n := 10 * (acc : Int)) (by omega) (by omega), wrap_id (by omega) (by omega)]
   omega
  have e2 : wrap64 ((s : Int) + 1) = ((s + 1 : Nat) : Int) := by rw [wrap_id (by omega) (by omega)]; omega
  have ht : (d.drop s).take (n + 1) = d[s] :: (d.drop (s + 1)).take n := by rw [List.drop_eq_getElem_cons hs, List.take_succ_cons]
  rw [ht, dval_cons] at h
  refine Ev.up ?_
  simp only [worldmintref05_Parse.l2]
  refine Ev.pos q1 (Ev.pos q2 (Ev.pos q3 ?_))
  rw [hb, e1, e2]
  exact ih (s + 1) _ q4 hacc h
theorem pow4 (m : Nat) : (10000 : Int) ^ m = ((10 ^ (4 * m) : Nat) : Int) := by
 rw [Nat.pow_mul, show (10 ^ 4 : Nat) = 10000 from rfl, Int.natCast_pow, show ((10000 : Nat) : Int) = 10000 from rfl]
theorem rp_l1 {neg : Bool} {d : List UInt8} (hd : ∀ c, c ∈ d → isDig c) (hl : d.length ≤ 5000) :
  ∀ (m : Nat) (x8 : Nat) (x7 : List Int), x8 ≤ m → x8 + 4 * x7.length = d.length → wf 10000 x7 → bv 10000 x7 = (dval 0 (d.drop x8) : Int) →
  ∃ y7, wf 10000 y7 ∧ y7.length ≤ 5000 ∧ bv 10000 y7 = (dval 0 d : Int) ∧ ∀ r, (∀ y8 : Int, ¬ y8 > 0 → Ev (fun k => worldmintref05_Parse.l1 k neg ⟨d.toArray⟩ y7 y8) r) → Ev (fun k => worldmintref05_Parse.l1 k neg ⟨d.toArray⟩ x7 (x8 : Int)) r := by
 intro m
 induction m with
 | zero =>
  intro x8 x7 h1 h2 h3 h4
  have : x8 = 0 := by omega
  subst this
  exact ⟨x7, h3, by omega, by simpa using h4, fun r h => h _ (by omega)⟩
 | succ m ih =>
  intro x8 x7 h1 h2 h3 h4
  by_cases h0 : x8 = 0
  ·subst h0
   exact ⟨x7, h3, by omega, by simpa using h4, fun r h => h _ (by omega)⟩
  ·obtain ⟨s, hs, hs2⟩ : ∃ s : Nat, mx 0 (wrap64 ((x8 : Int) - 4)) = (s : Int) ∧ s = x8 - 4 := by
    refine ⟨x8 - 4, ?_, rfl⟩
    rw [wrap_id (by omega) (by omega)]
    unfold mx
    split <;> omega
   have hn : s + (x8 - s) = x8 := by omega
   have hn4 : x8 - s ≤ 4 := by omega
   have hp : (0 + 1) * 10 ^ (x8 - s) ≤ 10000 := by
    have := Nat.pow_le_pow_right (show 0 < 10 by decide) hn4
    have e : (10 : Nat) ^ 4 = 10000 := by decide
    omega
   have hstep : ∀ r, Ev (fun k => worldmintref05_Parse.l1 k neg ⟨d.toArray⟩ (x7 ++ [(dval 0 ((d.drop s).take (x8 - s)) : Int)]) (wrap64 ((x8 : Int) - 4))) r → Ev (fun k => worldmintref05_Parse.l1 k neg ⟨d.toArray⟩ x7 (x8 : Int)) r := by
    intro r h
    refine Ev.up ?_
    simp only [worldmintref05_Parse.l1]
    refine Ev.pos (by omega) ?_
    rw [hs]
    exact rp_l2 hd (by omega) hl (by omega) (x8 - s) s 0 hn hp h
   generalize hC : (d.drop s).take (x8 - s) = C at hstep
   have hCl : C.length = x8 - s := by rw [← hC, List.length_take, List.length_drop]; omega
   have hCd : ∀ c, c ∈ C → isDig c := fun c hc => hd c (by rw [← hC] at hc; exact List.mem_of_mem_drop (List.mem_of_mem_take hc))
   have hlt : dval 0 C < 10000 := by
    have h1 := dval_lt hCd
    rw [hCl] at h1
    have h2 := Nat.pow_le_pow_right (show 0 < 10 by decide) hn4
    have e : (10 : Nat) ^ 4 = 10000 := by decide
    omega
   have hsplit : d.drop s = C ++ d.drop x8 := by
    rw [← hC, show d.drop x8 = (d.drop s).drop (x8 - s) by rw [List.drop_drop]; congr 1; omega, List.take_append_drop]
   have hv : bv 10000 (x7 ++ [(dval 0 C : Int)]) = (dval 0 (d.drop s) : Int) := by
    rw [bv_snoc, h4, hsplit, dval_append, dval_pow (dval 0 C), pow4, List.length_drop, show 4 * x7.length = d.length - x8 by omega]
    rw [Int.natCast_add, Int.natCast_mul, Int.mul_comm, Int.add_comm]
   have hw : wf 10000 (x7 ++ [(dval 0 C : Int)]) := wf_append.2 ⟨h3, wf_one (by omega) (by omega)⟩
   by_cases h4' : 4 ≤ x8
   ·have e : wrap64 ((x8 : Int) - 4) = (s : Int) := by rw [wrap_id (by omega) (by omega)]; omega
    rw [e] at hstep
    obtain ⟨y7, y1, y2, y3, y4⟩ := ih s _ (by omega) (by simp; omega) hw hv
    exact ⟨y7, y1, y2, y3, fun r h => hstep r (y4 r h)⟩
   ·have hs0 : s = 0 := by omega
    subst hs0
    exact ⟨_, hw, by simp; omega, by rw [hv, List.drop_zero], fun r h => hstep r (h _ (by rw [wrap_id (by omega) (by omega)]; omega))⟩
theorem rp_l0 {neg : Bool} {d : List UInt8} (hl : d.length ≤ 5000) {r : Bool × List Int × Int} (h1 : (∀ c, c ∈ d → isDig c) → Ev (fun k => worldmintref05_Parse.l1 k neg ⟨d.toArray⟩ [] (d.length : Int)) r) (h2 : ¬ (∀ c, c ∈ d → isDig c) → r = (false, [], 2)) :
  ∀ (n s : Nat), s + n = d.length → (∀ c, c ∈ d.take s → isDig c) → Ev (fun k => worldmintref05_Parse.l0 k neg ⟨d.toArray⟩ (s : Int)) r := by
 intro n
 induction n with
 | zero =>
  intro s hs ht
  refine Ev.up ?_
  simp only [worldmintref05_Parse.l0]
  rw [bs_size]
  refine Ev.neg (by omega) (h1 ?_)
  rw [List.take_of_length_le (by omega)] at ht
  exact ht
 | succ n ih =>
  intro s hs ht
  have hsl : s < d.length := by omega
  have hb : bt ⟨d.toArray⟩ (s : Int) = (d[s].toNat : Int) := bt_at0 d s d[s] (List.getElem?_eq_getElem hsl)
  have e2 : wrap64 ((s : Int) + 1) = ((s + 1 : Nat) : Int) := by rw [wrap_id (by omega) (by omega)]; omega
  refine Ev.up ?_
  simp only [worldmintref05_Parse.l0]
  rw [bs_size, hb, e2]
  refine Ev.pos (by omega) (Ev.pos (by omega) ?_)
  by_cases c1 : d[s].toNat < 48
  ·rw [h2 (fun h => by have := h _ (List.getElem_mem hsl); exact absurd this.1 (by omega))]
   exact Ev.pos (by omega) (Ev.ok _)
  ·by_cases c2 : d[s].toNat > 57
   ·rw [h2 (fun h => by have := h _ (List.getElem_mem hsl); exact absurd this.2 (by omega))]
    exact Ev.neg (by omega) (Ev.pos (by omega) (Ev.ok _))
   ·refine Ev.neg (by omega) (Ev.neg (by omega) (ih (s + 1) (by omega) ?_))
    intro c hc
    rw [List.take_succ_eq_append_getElem hsl, List.mem_append] at hc
    rcases hc with hc | hc
    ·exact ht c hc
    ·obtain rfl : c = d[s] := by simpa using hc
     exact ⟨by omega, by omega⟩
theorem rparse_ev {l : List UInt8} (hl : l.length ≤ 5000) : (∀ z, parseZ l = some z → inLim z → ∃ n D, Ev (fun k => worldmintref05_Parse.f k ⟨l.toArray⟩) (n, D, 0) ∧ RI 10000 5000 n D z) ∧
  (∀ z, parseZ l = some z → ¬ inLim z → Ev (fun k => worldmintref05_Parse.f k ⟨l.toArray⟩) (false, [], 4)) ∧ (parseZ l = none → Ev (fun k => worldmintref05_Parse.f k ⟨l.toArray⟩) (false, [], 2)) := by
 have hcl := cutS_len l
 have hgo : ∀ r, (okD (cutS l).1 (cutS l).2 = true → Ev (fun k => worldmintref05_Parse.l1 k (cutS l).1 ⟨(cutS l).2.toArray⟩ [] ((cutS l).2.length : Int)) r) → (okD (cutS l).1 (cutS l).2 = false → r = (false, [], 2)) → Ev (fun k => worldmintref05_Parse.f k ⟨l.toArray⟩) r := by
  intro r h1 h2
  have hj1 : Ev (fun k => worldmintref05_Parse.j1 k (cutS l).1 ⟨(cutS l).2.toArray⟩) r → Ev (fun k => worldmintref05_Parse.f k ⟨l.toArray⟩) r := by
   intro h
   unfold worldmintref05_Parse.f
   rw [bs_size]
   refine Ev.neg (by omega) ?_
   unfold cutS at h
   match l with
   | [] =>
    refine Ev.neg (by simp) (Ev.up ?_)
    simp only [worldmintref05_Parse.j0]
    exact Ev.neg (by simp) (by simpa using h)
   | c :: t =>
    have hb : bt ⟨(c :: t).toArray⟩ 0 = (c.toNat : Int) := bt_at0 (c :: t) 0 c rfl
    refine Ev.pos (by simp) (Ev.pos (by simp) (Ev.up ?_))
    simp only [worldmintref05_Parse.j0]
    rw [hb]
    by_cases h45 : c = 45
    ·subst h45
     rw [show ((((45 : UInt8).toNat : Nat) : Int) == 45) = true by decide]
     refine Ev.pos rfl (Ev.pos (by rw [bs_size]; simp; omega) ?_)
     rw [extract_to _ 1 (by simp)]
     simpa using h
    ·have hne : ((c.toNat : Int) == 45) = false := by
      rw [beq_eq_false_iff_ne]
      exact fun h => h45 (u8_ext (by show c.toNat = 45; omega))
     rw [hne]
     refine Ev.neg (by simp) ?_
     simpa [h45] using h
  refine hj1 (Ev.up ?_)
  simp only [worldmintref05_Parse.j1]
  rw [bs_size]
  have hj2 : ∀ b, (b = true → okD (cutS l).1 (cutS l).2 = false) → (b = false → okD (cutS l).1 (cutS l).2 = (cutS l).2.all digB) → Ev (fun k => worldmintref05_Parse.j2 k (cutS l).1 ⟨(cutS l).2.toArray⟩ b) r := by
   intro b hb1 hb2
   refine Ev.up ?_
   simp only [worldmintref05_Parse.j2]
   cases b with
   | true => rw [h2 (hb1 rfl)]; exact Ev.pos rfl (Ev.ok _)
   | false =>
    refine Ev.neg (by simp) (rp_l0 (by omega) ?_ ?_ (cutS l).2.length 0 (by omega) (by simp))
    ·intro hall
     refine h1 ?_
     rw [hb2 rfl, List.all_eq_true]
     exact fun c hc => (digB_iff c).2 (hall c hc)
    ·intro hall
     refine h2 ?_
     rw [hb2 rfl, Bool.eq_false_iff]
     intro h
     rw [List.all_eq_true] at h
     exact hall fun c hc => (digB_iff c).1 (h c hc)
  by_cases hd0 : (cutS l).2 = []
  ·refine Ev.pos (by rw [hd0]; rfl) (hj2 true (fun _ => ?_) (fun h => by cases h))
   rw [hd0]; unfold okD; rfl
  ·have hpos : 0 < (cutS l).2.length := List.length_pos_iff.2 hd0
   have he : (cutS l).2.isEmpty = false := by simpa using hd0
   obtain ⟨c, t, e⟩ : ∃ c t, (cutS l).2 = c :: t := by
    cases h : (cutS l).2 with
    | nil => exact absurd h hd0
    | cons c t => exact ⟨c, t, rfl⟩
   have hb : bt ⟨(cutS l).2.toArray⟩ 0 = (c.toNat : Int) := bt_at0 (cutS l).2 0 c (by rw [e]; rfl)
   refine Ev.neg (by omega) (Ev.pos (by omega) ?_)
   rw [hb]
   have hhd : (cutS l).2.head? = some c := by rw [e]; rfl
   by_cases h48 : c = 48
   ·subst h48
    have hok : okD (cutS l).1 (cutS l).2 = ((cutS l).2.all digB && !((cutS l).1 || decide (1 < (cutS l).2.length))) := by
     unfold okD
     rw [he, hhd]
     simp
    refine Ev.pos (by decide) ?_
    by_cases hn : (cutS l).1 = true
    ·exact Ev.pos hn (hj2 true (fun _ => by rw [hok, hn]; simp) (fun h => by cases h))
    ·have hn' : (cutS l).1 = false := by simpa using hn
     refine Ev.neg hn ?_
     by_cases h1' : 1 < (cutS l).2.length
     ·rw [decide_eq_true (p := ((cutS l).2.length : Int) > 1) (by omega)]
      exact hj2 true (fun _ => by rw [hok, hn', decide_eq_true h1']; simp) (fun h => by cases h)
     ·rw [decide_eq_false (p := ((cutS l).2.length : Int) > 1) (by omega)]
      exact hj2 false (fun h => by cases h) (fun _ => by rw [hok, hn', decide_eq_false h1']; simp)
   ·have hc : ¬ ((c.toNat : Int) = 48) := fun h => h48 (u8_ext (by show c.toNat = 48; omega))
    refine Ev.neg hc (hj2 false (fun h => by cases h) (fun _ => ?_))
    unfold okD
    rw [he, hhd]
    have : (some c == some (48 : UInt8)) = false := by simpa using h48
    rw [this]
    simp
 have hrun : okD (cutS l).1 (cutS l).2 = true → ∃ n D, RI 10000 5000 n D (zv (cutS l).1 (cutS l).2) ∧ Ev (fun k => worldmintref05_Parse.f k ⟨l.toArray⟩) (if bv 10000 D < lim then (n, D, 0) else (false, [], 4)) := by
  intro hok
  obtain ⟨o1, o2, o3, o4⟩ := okD_spec hok
  obtain ⟨y7, y1, y2, y3, y4⟩ := rp_l1 (neg := (cutS l).1) o2 (by omega) _ (cutS l).2.length [] (Nat.le_refl _) (by simp) (wf_nil _) (by simp [bv, dval_nil])
  have hr := nml_RI 10000 (by decide) (cutS l).1 y1 y2
  rw [y3] at hr
  refine ⟨_, _, hr, hgo _ (fun _ => y4 _ fun y8 h8 => ?_) (fun h => by rw [hok] at h; cases h)⟩
  refine Ev.up ?_
  simp only [worldmintref05_Parse.l1]
  refine Ev.neg h8 (Ev.bind (rnormal_ev _ (by omega)) (Ev.bind (fits_ev hr (by omega)) ?_))
  by_cases hb : bv 10000 (nml y7) < lim
  ·rw [if_pos hb]
   exact Ev.pos (decide_eq_true hb) (Ev.ok _)
  ·rw [if_neg hb]
   exact Ev.neg (by simpa using hb) (Ev.ok _)
 have hin : ∀ {n D z}, RI 10000 5000 n D z → (inLim z ↔ bv 10000 D < lim) := by
  intro n D z h
  have h1 := h.abs (by decide)
  have h0 := bv_nonneg (B := 10000) (by decide) h.wf
  have hl0 := lim_big
  unfold inLim
  split at h1 <;> constructor <;> intro hh <;> (try constructor) <;> omega
 refine ⟨fun z hz hl' => ?_, fun z hz hl' => ?_, fun hz => ?_⟩
 ·unfold parseZ at hz
  split at hz
  ·rename_i hok
   injection hz with hz
   obtain ⟨n, D, hr, he⟩ := hrun hok
   rw [hz] at hr
   rw [if_pos ((hin hr).1 hl')] at he
   exact ⟨n, D, he, hr⟩
  ·cases hz
 ·unfold parseZ at hz
  split at hz
  ·rename_i hok
   injection hz with hz
   obtain ⟨n, D, hr, he⟩ := hrun hok
   rw [hz] at hr
   rw [if_neg (fun h => hl' ((hin hr).2 h))] at he
   exact he
  ·cases hz
 ·unfold parseZ at hz
  split at hz
  ·cases hz
  ·rename_i hok
   exact hgo _ (fun h => absurd h hok) (fun _ => rfl)
end Go.Proofs.YtlceokefdihdkaaGreatDoor
