/- What the law WideTexts computes is true for every input. -/
import Derived.Test.YtlceokefdihdkaaGreatDoorXx0
import Derived.Test.YtlceokefdihdkaaGreatDoorXx1
import Derived.Test.YtlceokefdihdkaaGreatDoorXx10
import Derived.Test.YtlceokefdihdkaaGreatDoorXx2
import Derived.Test.YtlceokefdihdkaaGreatDoorXx3
import Derived.Test.YtlceokefdihdkaaGreatDoorXx4
import Derived.Test.YtlceokefdihdkaaGreatDoorXx5
import Derived.Test.YtlceokefdihdkaaGreatDoorXx6
import Derived.Test.YtlceokefdihdkaaGreatDoorXx7
import Derived.Test.YtlceokefdihdkaaGreatDoorXx8
import Derived.Test.YtlceokefdihdkaaGreatDoorXx9
import Derived.Test.YtlceokefdihdkaaGreatDoorPw13
namespace Go.Proofs.YtlceokefdihdkaaGreatDoor.Pure
open Go.RowKit Go.Proofs.YtlceokefdihdkaaGreatDoorW.PrintWords Go.Proofs.YtlceokefdihdkaaGreatDoor Go.Proofs.YtlceokefdihdkaaGreatDoor.X
set_option linter.unusedSimpArgs false
set_option linter.unusedVariables false

theorem short_eq (s : ByteArray) (m : Nat) : ∃ t, worldmintref01_Short.f s m = some t ∧ t.size ≤ m := by
  unfold worldmintref01_Short.f
  by_cases h : (s.size : Int) > m
  · rw [if_pos h, if_pos (by omega), if_pos (by omega)]
    exact ⟨_, rfl, by rw [ByteArray.size_extract]; omega⟩
  · rw [if_neg h]
    exact ⟨s, rfl, by omega⟩
/-- One text of the list agrees. -/
theorem texts_step (x : List ByteArray) (i : Int) (h0 : 0 ≤ i) (hl : i < (x.length : Int)) (hs : (rdOf ByteArray.empty x i).size ≤ 5000) {r : Bool} (hr : Ev (fun k => worldmintlaw05_WideTexts.l0 k x (wrap64 (i + 1))) r) : Ev (fun k => worldmintlaw05_WideTexts.l0 k x i) r := by
  refine Ev.up ?_
  simp only [worldmintlaw05_WideTexts.l0]
  refine Ev.pos hl (Ev.pos h0 ?_)
  rw [bs_eta (rdOf ByteArray.empty x i)]
  generalize hL : (rdOf ByteArray.empty x i).data.toList = l
  have hll : l.length ≤ 5000 := by rw [← hL, toList_size]; exact hs
  obtain ⟨p1, p2, p3⟩ := xparse_ev hll
  obtain ⟨q1, q2, q3⟩ := rparse_ev hll
  have hz : ∀ e, e ≠ (0 : Int) → Ev (fun k => wide_Parse.f k ⟨l.toArray⟩) (false, [], e) → Ev (fun k => worldmintref05_Parse.f k ⟨l.toArray⟩) (false, [], e) → Ev (fun k => ((wide_Parse.f k ⟨l.toArray⟩).bind fun bt462 => ((worldmintref05_Parse.f k ⟨l.toArray⟩).bind fun bt469 => (if bt462.2.2 = bt469.2.2 then ((worldmintlaw05_equal.f k bt462.1 bt462.2.1 bt469.1 bt469.2.1).bind fun t475 => (if t475 = true then (if bt462.2.2 = 0 then ((wide_Int_String.f bt462.1 bt462.2.1).bind fun t476 => (if t476.toList = (⟨l.toArray⟩ : ByteArray).toList then (worldmintlaw05_WideTexts.l0 k x (wrap64 (i + 1))) else (some false))) else (worldmintlaw05_WideTexts.l0 k x (wrap64 (i + 1)))) else (some false))) else (some false))))) r := by
    intro e he g1 g2
    exact Ev.bind g1 (Ev.bind g2 (Ev.pos rfl (Ev.bind (equal_ev (RI.zero _ _) (RI.zero 10000 5) (by decide)) (Ev.pos rfl (Ev.neg he hr)))))
  cases hp : parseZ l with
  | none => exact hz 2 (by decide) (p3 hp) (q3 hp)
  | some z =>
    by_cases hin : inLim z
    · obtain ⟨m, E, g1, r1⟩ := p1 z hp hin
      obtain ⟨n, D, g2, r2⟩ := q1 z hp hin
      have hst : wide_Int_String.f m E = some ⟨l.toArray⟩ := by rw [string_run r1, txt_of_parse hp]
      exact Ev.bind g1 (Ev.bind g2 (Ev.pos rfl (Ev.bind (equal_ev r1 r2 (by decide)) (Ev.pos rfl (Ev.pos rfl (Ev.bind0 hst (Ev.pos rfl hr)))))))
    · exact hz 4 (by decide) (p2 z hp hin) (q2 z hp hin)
theorem texts_all (x : List ByteArray) (hx : ∀ s, s ∈ x → s.size ≤ 5000) (hl : x.length ≤ 1000) : ∀ (n i : Nat), i + n = x.length → Ev (fun k => worldmintlaw05_WideTexts.l0 k x (i : Int)) true := by
  intro n
  induction n with
  | zero =>
    intro i h
    refine Ev.up ?_
    simp only [worldmintlaw05_WideTexts.l0]
    exact Ev.neg (by omega) (Ev.bind lives_ev (Ev.ok _))
  | succ n ih =>
    intro i h
    have hi : i < x.length := by omega
    have hr : rdOf ByteArray.empty x (i : Int) = x[i] := by unfold rdOf; simp [hi]
    refine texts_step x i (by omega) (by omega) (by rw [hr]; exact hx _ (List.getElem_mem hi)) ?_
    rw [show wrap64 ((i : Int) + 1) = ((i + 1 : Nat) : Int) by rw [wrap_id (by omega) (by omega)]; omega]
    exact ih (i + 1) (by omega)
theorem WideTexts : worldmintlaw05_WideTexts.Pure := by
  intro a0 l1 a2 a3 h0 hm h8 hw h2 h3
  obtain ⟨x, n, D, g1, r1⟩ := number_gives hw 0 (by omega)
  have ht := text_ev r1 (by decide)
  have hb := r1.lt
  have hlen := txt_len (by decide) hb.1 hb.2
  have hpos : 0 < (txt x).length := by
    unfold txt
    rw [List.length_append]
    have := List.length_pos_iff.2 (dec_ne x.natAbs)
    omega
  generalize txt x = t at *
  have hA := around_eq a2 (t.length : Int) h2 (by omega)
  have hA1 := around_bd a2 (t.length : Int) (by omega)
  generalize aroundOf a2 (t.length : Int) = p at *
  obtain ⟨s, hs, hs2⟩ := short_eq a0 30
  have e1 : wrap64 (p + 1) = p + 1 := wrap_id (by omega) (by omega)
  have z1 : ((⟨t.toArray⟩ : ByteArray).extract 0 p.toNat).size ≤ 1053 := by rw [ByteArray.size_extract, bs_size]; omega
  have z2 : ∀ q, ((⟨t.toArray⟩ : ByteArray).extract q (⟨t.toArray⟩ : ByteArray).size).size ≤ 1053 := fun q => by rw [ByteArray.size_extract, bs_size]; omega
  have z3 : (strOfNums [a3]).size = 1 := by rw [strOfNums_size]; rfl
  have z4 : (⟨t.toArray⟩ : ByteArray).size ≤ 1053 := by rw [bs_size]; omega
  refine Ev.ex (f := fun k => worldmintlaw05_WideTexts.f k a0 l1 a2 a3) ?_
  unfold worldmintlaw05_WideTexts.f
  have hT : (⟨t.toArray⟩ : ByteArray).size = t.length := rfl
  refine Ev.bind g1 (Ev.bind ht ?_)
  refine Ev.bind0 hA (Ev.bind0 hs (Ev.pos hA1.1 (Ev.pos (by omega) (Ev.bind0 rfl ?_))))
  refine Ev.pos (by omega) (Ev.pos (by rw [e1]; omega) (Ev.pos (by rw [e1]; omega) (Ev.pos (by have := z2 (wrap64 (p + 1)).toNat; omega) (Ev.pos (by omega) ?_))))
  refine texts_all _ ?_ (by simp) 5 0 rfl
  intro u hu
  simp only [List.mem_cons, List.not_mem_nil, or_false] at hu
  rcases hu with rfl | rfl | rfl | rfl | rfl
  · omega
  · rw [bs_size]; omega
  · rw [ByteArray.size_append, ByteArray.size_append]; have := z2 (wrap64 (p + 1)).toNat; omega
  · omega
  · rw [ByteArray.size_append]; rw [bs_size]; omega
end Go.Proofs.YtlceokefdihdkaaGreatDoor.Pure
