import Derived.Test.YtlceokefdihdkaaGreatDoorXx0
import Derived.RangeFuncBox
import Derived.Lib.Hide
namespace Go.Proofs.YtlceokefdihdkaaGreatDoor.X
open Go.RowKit Go.Proofs.YtlceokefdihdkaaGreatDoorW.PrintWords Go.Proofs.YtlceokefdihdkaaGreatDoorW.PrintLast Go.Proofs.YtlceokefdihdkaaGreatDoorW.PrintMore
set_option linter.unusedSimpArgs false
set_option linter.unusedVariables false
def bAt (br : Int) (b : List Int) (i : Nat) : Int := if i < b.length then IntKind.u64.wrap (br + IntKind.u64.wrap (rd b i)) else br
def difSt (a b : List Int) : Nat → List Int × Int
 | 0 => ([], 0)
 | i + 1 => if IntKind.u64.wrap (rd a i) < bAt (difSt a b i).2 b i then ((difSt a b i).1 ++ [IntKind.u64.wrap (IntKind.u64.wrap (IntKind.u64.wrap (rd a i) + 4294967296) - bAt (difSt a b i).2 b i) % 4294967296], 1)
  else ((difSt a b i).1 ++ [IntKind.u64.wrap (IntKind.u64.wrap (rd a i) - bAt (difSt a b i).2 b i) % 4294967296], 0)
theorem difSt_len (a b : List Int) (i : Nat) : (difSt a b i).1.length = i := by
 induction i with
 | zero => rfl
 | succ i ih => unfold difSt; split <;> simp [ih]
def difO (a b : List Int) : List Int := (difSt a b a.length).1
theorem set_dif (p q : List Int) (y : Int) (i : Nat) (h : p.length = i) (hi : i < q.length) : (p ++ q.drop i).set i y = (p ++ [y]) ++ q.drop (i + 1) := by
 subst h
 rw [List.set_append_right _ _ (Nat.le_refl _), Nat.sub_self, List.drop_eq_getElem_cons hi, List.append_assoc]
 rfl
theorem rd_dif (p q : List Int) (i : Nat) (h : p.length = i) (hi : i < q.length) : rdOf (0 : Int) (p ++ q.drop i) (i : Int) = rd q i := by
 subst h
 unfold rdOf rd
 rw [Int.toNat_natCast, List.getD_eq_getElem?_getD, List.getD_eq_getElem?_getD, List.getElem?_append_right (Nat.le_refl _), Nat.sub_self, List.getElem?_drop]
 rfl
set_option maxRecDepth 100000 in
set_option maxHeartbeats 4000000 in
theorem sub_main (w0 : World) (g cap : Nat) (l0 : List Int) (A1 : Option Addr) (c1 : Nat) (l1 : List Int) (w : World) (hb0 : Below w0.heap.size w0 w) (hr0 : Kd.R (Kd.int .u32) 81 w w0.heap.size (fun _ => True) (.slice (some ⟨g, 0, none⟩) l0.length cap) l0) (hgb : w0.heap.size ≤ g)
  (hr1 : Kd.C (Kd.int .u32) w0 A1 l1.length l1) (hc1 : l1.length ≤ c1)
  (hz0 : l0.length ≤ 1000000) (hz1 : l1.length ≤ 1000000) :
  Calls Tryz.prog 89 #[.slice (some ⟨g, 0, none⟩) l0.length cap, .slice A1 l1.length c1] w fun e w' => ∃ v : Int, e = .returned (.int .u32 v) ∧ Kd.R (Kd.int .u32) 81 w' w0.heap.size (fun _ => True) (.slice (some ⟨g, 0, none⟩) l0.length cap) (difO l0 l1) ∧ Below w0.heap.size w0 w' := by
 have HR1 := Aside0.mk hr1
 clear hr1
 go_enter Tryz.func89, Tryz.ntmps89
 go_wp2_with fail
 go_loopw [5, 11] (fun v5 v11 wr => ∃ i : Nat, v5 = .int .u64 (difSt l0 l1 i).2 ∧ v11 = .int .i64 i ∧ i ≤ l0.length ∧ Aside0 (Kd.R (Kd.int .u32) 81 wr w0.heap.size (fun _ => True) (.slice (some ⟨g, 0, none⟩) l0.length cap) ((difSt l0 l1 i).1 ++ l0.drop i)) ∧ Aside0 (Below w0.heap.size w0 wr))
  (fun v5 v11 wr => l0.length - (intOf v11).toNat)
 case atStart => exact ⟨0, by rfl, by rfl, Nat.zero_le _, ⟨hr0⟩, ⟨hb0⟩⟩
 case round =>
  obtain ⟨i, rfl, rfl, hi, HRR, HB⟩ := hrel
  clear hr0 hb0
  by_cases hlast : i < l0.length
  ·have hib : (i : Int) < (l0.length : Int) := by omega
   obtain ⟨hxg, hfg⟩ := Kd.R_celln (0 : Int) HRR.out (i : Int) (by omega) (by omega)
   rw [rd_dif _ _ _ (difSt_len l0 l1 i) hlast, Int.toNat_natCast] at hxg
   rw [Int.toNat_natCast] at hfg
   have step : ∀ y : Int, Aside0 (Kd.R (Kd.int .u32) 81 (wr.setCell ⟨g, i, none⟩ (.int .u32 y)) w0.heap.size (fun _ => True) (.slice (some ⟨g, 0, none⟩) l0.length cap) (((difSt l0 l1 i).1 ++ [y]) ++ l0.drop (i + 1)) ∧ Below w0.heap.size w0 (wr.setCell ⟨g, i, none⟩ (.int .u32 y))) := by
    intro y
    have r3 := Kd.R_putn HRR.out (i : Int) y
    rw [Int.toNat_natCast, set_dif _ _ _ _ (difSt_len l0 l1 i) hlast] at r3
    exact ⟨⟨r3, HB.out.setCell (p := ⟨g, i, none⟩) hgb _⟩⟩
   have ST := Aside0.mk step
   clear step
   have hxg' : wr.cell? ⟨g, i, none⟩ = some (.int .u32 (rd l0 i)) := hxg
   clear hxg
   have fin : ∀ br : Int, bAt (difSt l0 l1 i).2 l1 i = br → Aside0 (
     (IntKind.u64.wrap (rd l0 i) < br → difSt l0 l1 (i + 1) = ((difSt l0 l1 i).1 ++ [IntKind.u64.wrap (IntKind.u64.wrap (IntKind.u64.wrap (rd l0 i) + 4294967296) - br) % 4294967296], 1)) ∧
     (¬ IntKind.u64.wrap (rd l0 i) < br → difSt l0 l1 (i + 1) = ((difSt l0 l1 i).1 ++ [IntKind.u64.wrap (IntKind.u64.wrap (rd l0 i) - br) % 4294967296], 0))) := by
    rintro br rfl
    exact ⟨⟨fun h => by rw [difSt, if_pos h], fun h => by rw [difSt, if_neg h]⟩⟩
   by_cases h1 : i < l1.length
   ·have h1I : (i : Int) < (l1.length : Int) := by omega
    obtain ⟨ad1, e1, hx1⟩ := Kd.at_int HR1.out (i : Int) (by omega) (by omega)
    cases e1
    replace hx1 := (HB.out.cell (World.block_lt_of_cell? w0 _ hx1)).trans hx1
    rw [Int.toNat_natCast] at hx1
    have F := fin (IntKind.u64.wrap ((difSt l0 l1 i).2 + IntKind.u64.wrap (rd l1 i))) (by unfold bAt; rw [if_pos h1])
    clear fin
    by_cases hgt : IntKind.u64.wrap (rd l0 i) < IntKind.u64.wrap ((difSt l0 l1 i).2 + IntKind.u64.wrap (rd l1 i))
    ·go_wp2_with fail
     go_roundw
     case rel =>
      have e := F.out.1 hgt
      refine ⟨i + 1, by rw [e], by rfl, by omega, ?_, ⟨(ST.out _).out.2⟩⟩
      rw [e]
      exact ⟨(ST.out _).out.1⟩
     case measure => simp [intOf]; omega
    ·go_wp2_with fail
     go_roundw
     case rel =>
      have e := F.out.2 hgt
      refine ⟨i + 1, by rw [e], by rfl, by omega, ?_, ⟨(ST.out _).out.2⟩⟩
      rw [e]
      exact ⟨(ST.out _).out.1⟩
     case measure => simp [intOf]; omega
   ·have h1I : ¬ (i : Int) < (l1.length : Int) := by omega
    have F := fin (difSt l0 l1 i).2 (by unfold bAt; rw [if_neg h1])
    clear fin
    by_cases hgt : IntKind.u64.wrap (rd l0 i) < (difSt l0 l1 i).2
    ·go_wp2_with fail
     go_roundw
     case rel =>
      have e := F.out.1 hgt
      refine ⟨i + 1, by rw [e], by rfl, by omega, ?_, ⟨(ST.out _).out.2⟩⟩
      rw [e]
      exact ⟨(ST.out _).out.1⟩
     case measure => simp [intOf]; omega
    ·go_wp2_with fail
     go_roundw
     case rel =>
      have e := F.out.2 hgt
      refine ⟨i + 1, by rw [e], by rfl, by omega, ?_, ⟨(ST.out _).out.2⟩⟩
      rw [e]
      exact ⟨(ST.out _).out.1⟩
     case measure => simp [intOf]; omega
  ·obtain rfl : i = l0.length := by omega
   go_wp2_with fail
   go_ret
   refine ⟨_, rfl, ?_, HB.out⟩
   have h := HRR.out
   rw [List.drop_length, List.append_nil] at h
   exact h
end Go.Proofs.YtlceokefdihdkaaGreatDoor.X
namespace Go.Proofs.YtlceokefdihdkaaGreatDoor.X
open Go.RowKit Go.Proofs.YtlceokefdihdkaaGreatDoorW.PrintWords Go.Proofs.YtlceokefdihdkaaGreatDoorW.PrintLast Go.Proofs.YtlceokefdihdkaaGreatDoorW.PrintMore
set_option linter.unusedSimpArgs false
set_option linter.unusedVariables false
namespace CopyRun
open Kd
theorem run_copyR {P : Program} {enc : Int → Value} {h1 : ∀ x, (enc x).oneCell' = true} (d : Int) {W : World} (base : Nat) (t t' e ty : TypeId)
  (ht : P.underlying t = some (.slice e)) (hinfo : (P.info? e).map (·.size) = some 1)
  (v : Value) (xs ys : List Int) (A : Option Addr) (m c : Nat) (ok : Nat → Prop)
  (HO : (scalar enc h1).R e W base ok v xs) (HR : (scalar enc h1).C W A m ys) (hp : 0 < min m xs.length) :
  ∃ w1, (Builtin.copy_ #[t, t'] ty #[v, .slice A m c]).run P W = .ok (goInt ((min m xs.length : Nat) : Int)) w1 ∧ (scalar enc h1).R e w1 base ok v (ys.take (min m xs.length) ++ xs.drop (min m xs.length)) ∧ W.grownBy w1 v.ownBlock := by
 have hR := reads_of_C (enc := enc) (d := d) (h1 := h1) HR
 have hm : ys.length = m := hR.1
 have hown := own_of_R HO
 obtain ⟨ad, hA, hc⟩ := hR.2.2 (by omega)
 rcases hown.2 with ⟨_, hx0⟩ | ⟨g, cap, cur, hv, hb, hh, hnc, hcm, hcs, htake⟩
 ·omega
 have hcs1 : cur.size = cap := by omega
 have hsrc : ∀ j u, (encs enc (ys.take (min m xs.length)))[j]? = some u → W.cell? (ad.add j) = some u := by
  intro j u hu
  have hj : j < (ys.take (min m xs.length)).length := by
   rcases Nat.lt_or_ge j (ys.take (min m xs.length)).length with h | h
   ·exact h
   ·rw [List.getElem?_eq_none (by rw [encs_length]; exact h)] at hu
    cases hu
  have hjm : j < min m xs.length := by rw [List.length_take] at hj; omega
  rw [encs_get (d := d) _ j hj] at hu
  rw [hc j (by omega), ← hu]
  simp [List.getD_eq_getElem?_getD, hjm]
 have hkl : (encs enc (ys.take (min m xs.length))).length = min m xs.length := by rw [encs_length, List.length_take]; omega
 have hr := run_copy_cells (P := P) W t t' ty e g 0 xs.length cap ad m c (encs enc (ys.take (min m xs.length))) ht hinfo (by rw [hkl]) hsrc
  (fun j hj => by rw [cell_of_row W g _ cur e (0, 0) hh]; simp; omega) (fun j _ => blk_frozen hh _) (by intro u hu; simp only [encs, List.mem_map] at hu; obtain ⟨q, _, rfl⟩ := hu; exact h1 q)
 obtain ⟨cur', h3, h4, h5⟩ := setCells_row (encs enc (ys.take (min m xs.length))) 0 W cur hh (by rw [hkl]; omega)
 obtain ⟨s1, s2, s3, s4⟩ := setCells_same g (encs enc (ys.take (min m xs.length))) 0 W
 refine ⟨_, by rw [hv, hA, hr, hkl], R_of_own ?_ HO.1, ⟨s1, s2, s3, by rw [s4]; exact Nat.le_refl _, fun k _ hk => setCells_far _ _ k (fun he => hk (by rw [hv, he]; simp [Value.ownBlock]))⟩⟩
 have hln : (ys.take (min m xs.length) ++ xs.drop (min m xs.length)).length = xs.length := by
  rw [List.length_append, List.length_take, List.length_drop]
  omega
 rw [hln]
 refine ⟨by rw [encs_length, hln, Nat.mul_one], .inr ⟨g, cap, cur', hv, hb, h3, hnc, hcm, by rw [h4, hcs], ?_⟩⟩
 rw [h5, List.take_zero, List.nil_append, hkl, Nat.zero_add, encs_append, Nat.mul_one]
 rw [List.take_append, hkl, List.take_of_length_le (by rw [hkl]; omega)]
 congr 1
 have htk : cur.toList.take xs.length = encs enc xs := by rw [← htake, Nat.mul_one]
 have hd : encs enc (xs.drop (min m xs.length)) = (encs enc xs).drop (min m xs.length) := by simp [encs, List.map_drop]
 rw [hd, ← htk, List.drop_take]
end CopyRun
set_option maxRecDepth 100000 in
set_option maxHeartbeats 400000 in
theorem diff_main (A0 : Option Addr) (c0 : Nat) (l0 : List Int) (A1 : Option Addr) (c1 : Nat) (l1 : List Int) (w : World) (hr0 : Kd.C (Kd.int .u32) w A0 l0.length l0) (hc0 : l0.length ≤ c0) (hr1 : Kd.C (Kd.int .u32) w A1 l1.length l1) (hc1 : l1.length ≤ c1)
  (hz0 : l0.length ≤ 1000000) (hz1 : l1.length ≤ 1000000) (hp : 0 < l0.length) :
  Calls Tryz.prog 65 #[.slice A0 l0.length c0, .slice A1 l1.length c1] w fun e w' => ∃ v0_ : Value, e = .returned (v0_) ∧ Kd.R (Kd.int .u32) 81 w' w.heap.size (fun _ => True) v0_ (difO l0 l1) ∧ Below w.heap.size w w' := by
 have HR0 := Aside0.mk hr0
 have HR1 := Aside0.mk hr1
 clear hr0 hr1
 go_enter Tryz.func65, Tryz.ntmps65
 have hpI : (0 : Int) ≤ (l0.length : Int) := by omega
 go_wp2_with (first | ((with_reducible refine gate_dst (N := 8) rfl ?_); refine Kd.R_make (Kd.int .u32) _ 81 rfl (N := 8) rfl 31 _ _ rfl (l0.length : Int) rfl rfl Tryz.underlying31 (.int .u32 0) 4 info81 rfl (by decide) (by omega) 0 (ok := fun _ => True) (okp := fun _ => True) rfl (fun _ hk => hk) trivial (by omega) (by omega) (Below.refl _ _) (Nat.le_refl _) ?_; intro v414 w6 ho7 hb hg_ hnew_))
 rw [Int.toNat_natCast] at ho7
 have HC0 := Aside0.mk (Kd.C_below HR0.out hb)
 have hB6 := Aside0.mk hb
 clear hg_ hnew_ hb
 have HO7 := Aside0.mk ho7
 clear ho7
 obtain ⟨w8, hrun, hR8, hg8⟩ := CopyRun.run_copyR (P := Tryz.prog) (enc := Value.int IntKind.u32) (h1 := fun _ => rfl) (0 : Int) w.heap.size 31 31 81 3 Tryz.underlying31 (by kernel_rfl) v414 (List.replicate l0.length 0) l0 A0 l0.length c0 (fun _ => True) HO7.out HC0.out (by simp; exact hp)
 have hB8 : Below w.heap.size w w8 := hB6.out.grown hg8 hB6.out.size (Kd.R_base HO7.out)
 have e8 : l0.take (min l0.length (List.replicate l0.length (0 : Int)).length) ++ (List.replicate l0.length (0 : Int)).drop (min l0.length (List.replicate l0.length (0 : Int)).length) = l0 := by simp
 rw [e8] at hR8
 go_wp2_with fail
 rw [hrun]
 obtain ⟨g, cap, rfl, hgb, _⟩ := Kd.R_form hR8 hp
 clear hrun hg8 e8
 go_wp2_with fail
 refine (sub_main w g cap l0 A1 c1 l1 w8 hB8 hR8 hgb HR1.out hc1 hz0 hz1).mono ?_
 rintro e w9 ⟨v, rfl, hR9, hB9⟩
 go_wp2_with fail
 go_ret
 exact ⟨_, rfl, hR9, hB9⟩
def wide_difference.f (l0 l1 : List Int) : Option (List Int) :=
 if l0.length ≤ 1000000 ∧ l1.length ≤ 1000000 ∧ 0 < l0.length then some (difO l0 l1) else none
theorem wide_difference.calls (A0 : Option Addr) (c0 : Nat) (l0 : List Int) (A1 : Option Addr) (c1 : Nat) (l1 : List Int) (r : List Int) (w : World) (hr0 : Kd.C (Kd.int .u32) w A0 l0.length l0) (hc0 : l0.length ≤ c0) (hr1 : Kd.C (Kd.int .u32) w A1 l1.length l1) (hc1 : l1.length ≤ c1) (h : wide_difference.f l0 l1 = some r) :
  Calls Tryz.prog 65 #[.slice A0 l0.length c0, .slice A1 l1.length c1] w fun e w' => ∃ v0_ : Value, e = .returned (v0_) ∧ Kd.R (Kd.int .u32) 81 w' w.heap.size (fun _ => True) v0_ r ∧ Below w.heap.size w w' := by
 unfold wide_difference.f at h
 split at h
 case isFalse => cases h
 case isTrue hz =>
 cases h
 exact diff_main A0 c0 l0 A1 c1 l1 w hr0 hc0 hr1 hc1 hz.1 hz.2.1 hz.2.2
end Go.Proofs.YtlceokefdihdkaaGreatDoor.X
