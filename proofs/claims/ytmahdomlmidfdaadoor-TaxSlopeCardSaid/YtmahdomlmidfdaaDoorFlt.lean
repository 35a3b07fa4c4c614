/- The walks of the methods of catalog.faults (add, name, tax, first) and of catalog.out. -/
import Derived.Test.YtmahdomlmidfdaaDoorFit
import Derived.Test.YtmahdomlmidfdaaDoorMpb
import Derived.KernelRfl
import Derived.Tactics2
import Derived.StillTailTactics
import Derived.Deep.DeepCutAuto
namespace Go.Proofs.YtmahdomlmidfdaaDoor
open Go.RowKit Go.Shelf Go.Maps Go.Proofs.YtmahdomlmidfdaaDoorW.PrintWords
set_option linter.unusedVariables false

/-- Block b is a set of faults of at most n entries that holds the codes of g. -/
def FB (w : World) (b n : Nat) (g : Int → Bool) : Prop := ∃ f, MapB Tryd.prog 28 4 w b n f ∧ ∀ x, f (.int .i64 x) = g x
/-- Block b is a set of names of at most n entries that holds those of g. -/
def SB (w : World) (b n : Nat) (g : List UInt8 → Bool) : Prop := ∃ f, MapB Tryd.prog 9 4 w b n f ∧ ∀ x, f (.string x) = g x

theorem uErr : Tryd.prog.underlying 28 = some (.int .i64) := by kernel_rfl
theorem uBool : Tryd.prog.underlying 4 = some .bool := by kernel_rfl
theorem uStr : Tryd.prog.underlying 9 = some .string := by kernel_rfl
theorem uFlt : Tryd.prog.underlying 58 = some (.map 28 4) := by kernel_rfl
theorem uSet : Tryd.prog.underlying 60 = some (.map 9 4) := by kernel_rfl
theorem zBool (w : World) : (zeroValue 4).run Tryd.prog w = .ok (.bool false) w := by kernel_rfl

theorem FB.below {w w' : World} {b n : Nat} {g : Int → Bool} (h : FB w b n g) (hb : Below w.heap.size w w') : FB w' b n g := by
  obtain ⟨f, h, hf⟩ := h; exact ⟨f, h.below hb, hf⟩
theorem FB.kept {w w' : World} {b n : Nat} {g : Int → Bool} {row : Option Nat} (h : FB w b n g) (hg : w.grownBy w' row) (hne : some b ≠ row) : FB w' b n g := by
  obtain ⟨f, h, hf⟩ := h; exact ⟨f, h.kept hg hne, hf⟩
theorem FB.alloc {w : World} {b n : Nat} {g : Int → Bool} (h : FB w b n g) (o : Obj) : FB (w.alloc o) b n g := by
  obtain ⟨f, h, hf⟩ := h; exact ⟨f, h.alloc o, hf⟩
theorem FB.setCell {w : World} {b n : Nat} {g : Int → Bool} (h : FB w b n g) {a : Addr} (ha : b ≠ a.block) (u : Value) : FB (w.setCell a u) b n g := by
  obtain ⟨f, h, hf⟩ := h; exact ⟨f, h.setCell ha u, hf⟩
theorem FB.lt {w : World} {b n : Nat} {g : Int → Bool} (h : FB w b n g) : b < w.heap.size := by
  obtain ⟨f, h, _⟩ := h; exact h.lt
theorem FB.mono {w : World} {b n m : Nat} {g : Int → Bool} (h : FB w b n g) (hm : n ≤ m) : FB w b m g := by
  obtain ⟨f, h, hf⟩ := h; exact ⟨f, h.mono hm, hf⟩
theorem FB.made (w : World) : FB (w.alloc (.map #[] 0)) w.heap.size 0 (fun _ => false) := ⟨_, MapB.made _ _ _ _, fun _ => rfl⟩
theorem SB.below {w w' : World} {b n : Nat} {g : List UInt8 → Bool} (h : SB w b n g) (hb : Below w.heap.size w w') : SB w' b n g := by
  obtain ⟨f, h, hf⟩ := h; exact ⟨f, h.below hb, hf⟩
theorem SB.kept {w w' : World} {b n : Nat} {g : List UInt8 → Bool} {row : Option Nat} (h : SB w b n g) (hg : w.grownBy w' row) (hne : some b ≠ row) : SB w' b n g := by
  obtain ⟨f, h, hf⟩ := h; exact ⟨f, h.kept hg hne, hf⟩
theorem SB.alloc {w : World} {b n : Nat} {g : List UInt8 → Bool} (h : SB w b n g) (o : Obj) : SB (w.alloc o) b n g := by
  obtain ⟨f, h, hf⟩ := h; exact ⟨f, h.alloc o, hf⟩
theorem SB.lt {w : World} {b n : Nat} {g : List UInt8 → Bool} (h : SB w b n g) : b < w.heap.size := by
  obtain ⟨f, h, _⟩ := h; exact h.lt
theorem SB.made (w : World) : SB (w.alloc (.map #[] 0)) w.heap.size 0 (fun _ => false) := ⟨_, MapB.made _ _ _ _, fun _ => rfl⟩

/-- The codes of g, and c where bad holds. -/
def addF (g : Int → Bool) (c : Int) (bad : Bool) : Int → Bool := fun x => g x || (bad && x == c)
def putS (g : List UInt8 → Bool) (s : List UInt8) : List UInt8 → Bool := fun x => x == s || g x

set_option maxHeartbeats 1000000 in
theorem flt_add (b n : Nat) (g : Int → Bool) (c : Int) (bad : Bool) (w : World) (h : FB w b n g) (hn : n < maxLen) (hc : (Lit.int .i64 c).wf = true) :
    Calls Tryd.prog 25 #[.map (some b), .int .i64 c, .bool bad] w fun e w' => e = .returned (.tuple #[]) ∧ FB w' b (n + 1) (addF g c bad) ∧ w.grownBy w' (some b) := by
  cases bad
  · have hg : addF g c false = g := by funext x; simp [addF]
    rw [hg]
    have H := Lib.hid h
    clear h hg
    go_enter Tryd.func25, Tryd.ntmps25
    go_wp2
    exact bodyPost_end (by first | rfl | simp [results, go_sem]) rfl ⟨rfl, H.out.mono (Nat.le_succ _), World.grownBy.refl _ _⟩
  · obtain ⟨f, h, hf⟩ := h
    go_enter Tryd.func25, Tryd.ntmps25
    go_wp2_with (at_mapUpdate; refine wpList_putB _ rfl _ _ _ 58 rfl 28 4 (int_keyed uErr) uFlt uBool b n f rfl h hn _ (.int .i64 c) true rfl rfl (key_int uErr hc) ?_; intro w1 h1 hg1)
    exact bodyPost_end (by first | rfl | simp [results, go_sem]) rfl ⟨rfl, ⟨_, h1, fun x => by
      by_cases hx : x = c
      · subst hx; rw [updB_same]; simp [addF]
      · rw [updB_other _ _ (fun e => hx (by injection e)), hf]; simp [addF, hx]⟩, hg1⟩

/-- w' is w but for the blocks of S, and new ones. -/
structure But (S : Nat → Prop) (w w' : World) : Prop where
  os : w'.os = w.os
  tape : w'.tape = w.tape
  output : w'.output = w.output
  size : w.heap.size ≤ w'.heap.size
  block : ∀ i, i < w.heap.size → ¬ S i → w'.heap[i]? = w.heap[i]?
theorem But.refl (S : Nat → Prop) (w : World) : But S w w := ⟨rfl, rfl, rfl, Nat.le_refl _, fun _ _ _ => rfl⟩
theorem But.trans {S : Nat → Prop} {w w' w'' : World} (h : But S w w') (k : But S w' w'') : But S w w'' :=
  ⟨k.os.trans h.os, k.tape.trans h.tape, k.output.trans h.output, Nat.le_trans h.size k.size, fun i hi hs => (k.block i (Nat.lt_of_lt_of_le hi h.size) hs).trans (h.block i hi hs)⟩
theorem But.mono {S T : Nat → Prop} {w w' : World} (h : But S w w') (hST : ∀ i, S i → T i) : But T w w' := ⟨h.os, h.tape, h.output, h.size, fun i hi hs => h.block i hi (fun e => hs (hST i e))⟩
theorem But.of_below {S : Nat → Prop} {w w' : World} (h : Below w.heap.size w w') : But S w w' := ⟨h.os, h.tape, h.output, h.size, fun i hi _ => h.block i hi⟩
theorem But.of_grown {w w' : World} {b : Nat} (h : w.grownBy w' (some b)) : But (· = b) w w' := ⟨h.os, h.tape, h.output, h.size, fun i hi hs => h.block i hi (fun e => hs (by injection e))⟩
theorem But.below {S : Nat → Prop} {w w' : World} {B : Nat} (h : But S w w') (hB : B ≤ w.heap.size) (hS : ∀ i, S i → B ≤ i) : Below B w w' :=
  ⟨h.os, h.tape, h.output, h.size, fun i hi => h.block i (Nat.lt_of_lt_of_le hi hB) (fun e => absurd (hS i e) (by omega))⟩
theorem But.cell {S : Nat → Prop} {w w' : World} (h : But S w w') {p : Addr} {v : Value} (hc : w.cell? p = some v) (hp : ¬ S p.block) : w'.cell? p = some v := by
  have e := h.block p.block (World.block_lt_of_cell? w p hc) hp
  rw [← hc]
  unfold World.cell?
  rw [e]
theorem But.grown {S : Nat → Prop} {w w' : World} (h : But S w w') (b : Nat) (hs : ∀ i, S i → i = b) : w.grownBy w' (some b) :=
  ⟨h.os, h.tape, h.output, h.size, fun i hi hn => h.block i hi (fun e => hn (by rw [hs i e]))⟩
theorem FB.but {S : Nat → Prop} {w w' : World} {b n : Nat} {g : Int → Bool} (h : FB w b n g) (hb : But S w w') (hs : ¬ S b) : FB w' b n g := by
  obtain ⟨f, ⟨D, ⟨es, c, hh, r⟩, hd⟩, hf⟩ := h
  exact ⟨f, ⟨D, ⟨es, c, (hb.block b (Array.getElem?_eq_some_iff.1 hh).1 hs).trans hh, r⟩, hd⟩, hf⟩
theorem SB.but {S : Nat → Prop} {w w' : World} {b n : Nat} {g : List UInt8 → Bool} (h : SB w b n g) (hb : But S w w') (hs : ¬ S b) : SB w' b n g := by
  obtain ⟨f, ⟨D, ⟨es, c, hh, r⟩, hd⟩, hf⟩ := h
  exact ⟨f, ⟨D, ⟨es, c, (hb.block b (Array.getElem?_eq_some_iff.1 hh).1 hs).trans hh, r⟩, hd⟩, hf⟩
theorem GOK.but {S : Nat → Prop} {w w' : World} (h : GOK w) (hb : But S w w') (hS : ∃ B, (∃ W0, GBase W0 ∧ Below W0.heap.size W0 w ∧ W0.heap.size ≤ B) ∧ ∀ i, S i → B ≤ i) : GOK w' := by
  obtain ⟨B, ⟨W0, h0, hb0, hB⟩, hS⟩ := hS
  exact ⟨W0, h0, hb0.trans (hb.below hb0.size (fun i hi => Nat.le_trans hB (hS i hi)))⟩

set_option maxHeartbeats 1000000 in
theorem flt_name (b n bs ns : Nat) (g : Int → Bool) (gs : List UInt8 → Bool) (s : ByteArray) (w : World) (h : FB w b n g) (k : SB w bs ns gs) (hn : n + 1 < maxLen) (hns : ns < maxLen) (hs : s.size ≤ maxLen) (hne : b ≠ bs) (hG : GOK w) :
    Calls Tryd.prog 26 #[.map (some b), .string s, .map (some bs)] w fun e w' => e = .returned (.tuple #[]) ∧ FB w' b (n + 2) (addF (addF g 6 (!fitsL s.data.toList)) 8 (gs s.data.toList)) ∧ SB w' bs (ns + 1) (putS gs s.data.toList) ∧ But (fun i => i = b ∨ i = bs) w w' := by
  go_enter Tryd.func26, Tryd.ntmps26
  go_wp2_with fail
  refine (cat_fits s _ hG).mono ?_
  rintro e w1 ⟨rfl, hb1⟩
  have h1 := h.below hb1
  have k1 := k.below hb1
  have H1 := Lib.hid hb1
  clear h k hb1
  go_wp2_with fail
  refine (flt_add b n g 6 _ w1 h1 (by omega) (by decide)).mono ?_
  rintro e w2 ⟨rfl, h2, hg2⟩
  have k2 := k1.kept hg2 (by intro e; injection e with e; exact hne e.symm)
  obtain ⟨f, k2, hf⟩ := k2
  have H2 := Lib.hid hg2
  have HF := Lib.hid hf
  clear h1 k1 hg2 hf
  go_wp2_with (at_lookup; refine wpList_lookB _ rfl _ _ 60 rfl 9 4 (string_keyed uStr) uSet uBool (zBool _) bs ns f rfl k2 _ (.string s.data.toList) rfl (key_str uStr hs) ?_)
  refine (flt_add b (n + 1) _ 8 _ w2 h2 (by omega) (by decide)).mono ?_
  rintro e w3 ⟨rfl, h3, hg3⟩
  have k3 := k2.kept hg3 (by intro e; injection e with e; exact hne e.symm)
  have H3 := Lib.hid hg3
  clear h2 k2 hg3
  go_wp2_with (at_mapUpdate; refine wpList_putB _ rfl _ _ _ 60 rfl 9 4 (string_keyed uStr) uSet uBool bs ns f rfl k3 hns _ (.string s.data.toList) true rfl rfl (key_str uStr hs) ?_; intro w4 k4 hg4)
  have h4 := h3.kept hg4 (by intro e; injection e with e; exact hne e)
  rw [HF.out] at h4
  have b1 : But (fun i => i = b ∨ i = bs) w w1 := But.of_below H1.out
  have b2 : But (fun i => i = b ∨ i = bs) w1 w2 := (But.of_grown H2.out).mono (fun i hi => .inl hi)
  have b3 : But (fun i => i = b ∨ i = bs) w2 w3 := (But.of_grown H3.out).mono (fun i hi => .inl hi)
  have b4 : But (fun i => i = b ∨ i = bs) w3 w4 := (But.of_grown hg4).mono (fun i hi => .inr hi)
  refine bodyPost_end (by first | rfl | simp [results, go_sem]) rfl ⟨rfl, h4, ⟨_, k4, fun x => ?_⟩, ((b1.trans b2).trans b3).trans b4⟩
  by_cases hx : x = s.data.toList
  · subst hx; rw [updB_same]; simp [putS]
  · rw [updB_other _ _ (fun e => hx (by injection e)), HF.out]; simp [putS, hx]

/-- Whether a number is not in a range. -/
def outB (n lo hi : Int) : Bool := decide (n < lo) || decide (hi < n)
set_option maxHeartbeats 400000 in
theorem cat_out (n lo hi : Int) (w : World) : Calls Tryd.prog 37 #[.int .i64 n, .int .i64 lo, .int .i64 hi] w fun e w' => e = .returned (.bool (outB n lo hi)) ∧ w = w' := by
  unfold outB
  by_cases h : n < lo
  · rw [decide_eq_true h, Bool.true_or]
    have h1 : decide (n < lo) = true := decide_eq_true h
    clear h
    go_enter Tryd.func37, Tryd.ntmps37
    go_wp2
    go_ret
    exact ⟨rfl, rfl⟩
  · rw [decide_eq_false h, Bool.false_or]
    have h1 : decide (n < lo) = false := decide_eq_false h
    clear h
    go_enter Tryd.func37, Tryd.ntmps37
    go_wp2
    go_ret
    exact ⟨rfl, rfl⟩
/-- The first code of cs that g holds, or 0. -/
def firstF (g : Int → Bool) : List Int → Int
  | [] => 0
  | c :: cs => if g c = true then c else firstF g cs
theorem drop_cons_of {α : Type} (l : List α) (k : Nat) (h : k < l.length) : l.drop k = l[k] :: l.drop (k + 1) := List.drop_eq_getElem_cons h
set_option maxHeartbeats 1000000 in
theorem flt_first (b n : Nat) (g : Int → Bool) (cs : List Int) (L cap : Nat) (w : World) (h : FB w b n g) (hl : cs.length ≤ 1000) (hwf : ∀ c ∈ cs, (Lit.int .i64 c).wf = true)
    (hc : ∀ i (hi : i < cs.length), w.cell? ⟨L, i, none⟩ = some (.int .i64 cs[i])) :
    Calls Tryd.prog 32 #[.map (some b), .slice (some ⟨L, 0, none⟩) cs.length cap] w fun e w' => e = .returned (.int .i64 (firstF g cs)) ∧ w' = w := by
  obtain ⟨f, h, hf⟩ := h
  have HC := Lib.hid hc
  have HW := Lib.hid hwf
  have HF := Lib.hid hf
  clear hc hwf hf
  go_enter Tryd.func32, Tryd.ntmps32
  go_wp2
  go_loop [9] (fun v => ∃ k : Nat, v = .int .i64 k ∧ k ≤ cs.length ∧ Hid (firstF g (cs.drop k) = firstF g cs)) (fun v => cs.length - (intOf v).toNat)
  case atStart => exact ⟨0, rfl, Nat.zero_le _, Lib.hid rfl⟩
  case round =>
    obtain ⟨k, rfl, hk, hr⟩ := hrel
    by_cases hlt : k < cs.length
    · have hck := HC.out k hlt
      have hw := HW.out cs[k] (List.getElem_mem hlt)
      have hd : firstF g (cs.drop k) = if g cs[k] = true then cs[k] else firstF g (cs.drop (k + 1)) := by rw [drop_cons_of _ _ hlt]; rfl
      have hfk := HF.out cs[k]
      generalize cs[k] = c at hck hw hd hfk
      by_cases hg : g c = true
      · rw [if_pos hg] at hd
        have hfc : f (.int .i64 c) = true := by rw [hfk, hg]
        have HD := Lib.hid hd
        clear hd hfk hg
        go_wp2_with (at_lookup; refine wpList_lookB _ rfl _ _ 58 rfl 28 4 (int_keyed uErr) uFlt uBool (zBool _) b n f rfl h _ (.int .i64 c) rfl (key_int uErr hw) ?_; rw [hfc])
        go_ret
        exact ⟨by rw [← hr.out, HD.out]; rfl, rfl⟩
      · rw [if_neg hg] at hd
        have hfc : f (.int .i64 c) = false := by rw [hfk]; simpa using hg
        have HD := Lib.hid hd
        clear hd hfk hg
        go_wp2_with (at_lookup; refine wpList_lookB _ rfl _ _ 58 rfl 28 4 (int_keyed uErr) uFlt uBool (zBool _) b n f rfl h _ (.int .i64 c) rfl (key_int uErr hw) ?_; rw [hfc])
        go_round
        case rel => exact ⟨k + 1, by go_num, by omega, Lib.hid (by rw [← HD.out, hr.out])⟩
        case measure => simp [intOf]; omega
    · go_wp2
      go_ret
      exact ⟨by rw [← hr.out, List.drop_eq_nil_of_le (by omega)]; rfl, rfl⟩

theorem cell_rec (W : World) (d : Nat) (p : Addr) : World.cell? { heap := W.heap, tape := W.tape, drawn := d, os := W.os, output := W.output } p = W.cell? p := rfl
theorem frozen_rec (W : World) (d : Nat) (p : Addr) : World.frozen? { heap := W.heap, tape := W.tape, drawn := d, os := W.os, output := W.output } p = W.frozen? p := rfl
attribute [local go_sem] cell_rec frozen_rec
theorem still_skip {P : Program} {ops : Array Oper} {w : World} {Q : Act → Prop} {a : Act} {o : Oper} {rest : List Oper} (hw : Region.wanted o (yielded ops a.tmps) = false) (h : wpStill P ops w Q rest (a.put o.dst undef)) : wpStill P ops w Q (o :: rest) a := by
  unfold wpStill
  rw [hw]
  exact h
/-- The brackets of a tax in memory. -/
def RdB (w : World) (A : Option Addr) (l : List (Int × Int)) : Prop :=
  ∀ i (hi : i < l.length), ∃ ad, A = some ad ∧ w.cell? (ad.add (i * 2)) = some (.int .i64 l[i].1) ∧ w.cell? ⟨(ad.add (i * 2)).block, (ad.add (i * 2)).off + 1, none⟩ = some (.int .i64 l[i].2)
theorem add_block (ad : Addr) (k : Nat) : (ad.add k).block = ad.block := by unfold Addr.add; split <;> rfl
theorem RdB.below {w w' : World} {A : Option Addr} {l : List (Int × Int)} (h : RdB w A l) (hb : Below w.heap.size w w') : RdB w' A l := by
  intro i hi
  obtain ⟨ad, e, h1, h2⟩ := h i hi
  exact ⟨ad, e, pw_cell_below hb h1, pw_cell_below hb h2⟩

def tax0 (g : Int → Bool) (l : List (Int × Int)) : Int → Bool := addF (addF g 4 (decide (16 < l.length))) 1 (decide (l.length = 0) || !decide ((l.getD 0 (0, 0)).1 = 0))
def taxSt (g : Int → Bool) (l : List (Int × Int)) : Nat → Int → Bool
  | 0 => tax0 g l
  | i + 1 => addF (addF (taxSt g l i) 1 (decide (0 < i) && decide ((l.getD i (0, 0)).1 ≤ (l.getD (i - 1) (0, 0)).1))) 5 (outB (l.getD i (0, 0)).1 0 1099511627776 || outB (l.getD i (0, 0)).2 0 10000)

set_option maxRecDepth 100000 in
set_option maxHeartbeats 2000000 in
theorem flt_tax (b n : Nat) (g : Int → Bool) (nm : ByteArray) (A : Option Addr) (l : List (Int × Int)) (cap : Nat) (w : World) (h : FB w b n g) (hn : n + 2 + 2 * l.length < maxLen) (hl : l.length ≤ 140737488351232) (hr : RdB w A l) (hcap : l.length ≤ cap)
    (hrb : ∀ ad, A = some ad → 0 < l.length → ad.block ≠ b) :
    Calls Tryd.prog 31 #[.map (some b), .agg #[.string nm, .slice A l.length cap]] w fun e w' => e = .returned (.tuple #[]) ∧ FB w' b (n + 2 + 2 * l.length) (taxSt g l l.length) ∧ But (· = b) w w' := by
  have hlt := h.lt
  have hnb : ¬ w.heap.size = b := by omega
  have HR := Lib.hid hr
  have HRB := Lib.hid hrb
  clear hr hrb
  go_enter Tryd.func31, Tryd.ntmps31
  go_wp2_with fail
  have hs0 : (w.alloc (.cells #[.string nm, .slice A l.length cap] 25)).cell? ⟨w.heap.size, 1, none⟩ = some (.slice A l.length cap) := blk_cell (blk_new w _) 1
  have HB0 := Lib.hid (But.of_below (S := (· = b)) (below_alloc (Below.refl w.heap.size w) (.cells #[.string nm, .slice A l.length cap] 25)))
  have h0 := h.alloc (.cells #[.string nm, .slice A l.length cap] 25)
  have hz0 : w.heap.size + 1 ≤ (w.alloc (.cells #[.string nm, .slice A l.length cap] 25)).heap.size := by simp
  obtain ⟨W0, hW0⟩ : ∃ W0, w.alloc (.cells #[.string nm, .slice A l.length cap] 25) = W0 := ⟨_, rfl⟩
  rw [hW0] at hs0 HB0 h0 hz0 ⊢
  clear hW0 h
  refine (flt_add b n g 4 _ _ h0 (by omega) (by decide)).mono ?_
  rintro e w1 ⟨rfl, h1, hg1⟩
  have B1 := Lib.hid (But.of_grown hg1)
  have hs1 := B1.out.cell hs0 hnb
  clear h0 hg1
  obtain ⟨bad, hbad⟩ : ∃ bad, (decide (l.length = 0) || !decide ((l.getD 0 (0, 0)).1 = 0)) = bad := ⟨_, rfl⟩
  have second : ∀ (K : World → Prop) , (∀ w2, FB w2 b (n + 2) (tax0 g l) → But (· = b) w1 w2 → K w2) → Calls Tryd.prog 25 #[.map (some b), .int .i64 1, .bool bad] w1 fun e w2 => e = .returned (.tuple #[]) ∧ K w2 := by
    intro K hK
    refine (flt_add b (n + 1) _ 1 bad _ h1 (by omega) (by decide)).mono ?_
    rintro e w2 ⟨rfl, h2, hg2⟩
    refine ⟨rfl, hK w2 ?_ (But.of_grown hg2)⟩
    unfold tax0
    rw [hbad]
    have e16 : (decide (16 < (l.length : Int))) = decide (16 < l.length) := by rw [Bool.eq_iff_iff, decide_eq_true_iff, decide_eq_true_iff]; omega
    rw [← e16]
    exact h2
  go_upto_region 2 with fail
  go_cut [] (fun wx => FB wx b (n + 2) (tax0 g l) ∧ Hid (But (· = b) w1 wx))
  case first =>
    by_cases hl0 : l.length = 0
    · have hl1 : ((l.length : Int) == 0) = true := by simp [hl0]
      rw [decide_eq_true hl0, Bool.true_or] at hbad
      subst hbad
      clear hl0
      go_wp2_with fail
      refine (second (fun w2 => FB w2 b (n + 2) (tax0 g l) ∧ Hid (But (· = b) w1 w2)) (fun w2 h2 B2 => ⟨h2, Lib.hid B2⟩)).mono ?_
      rintro e w2 ⟨rfl, h2, B2⟩
      go_wp2_with fail
      go_meet
      exact ⟨h2, B2⟩
    · have hl1 : ((l.length : Int) == 0) = false := by rw [beq_eq_false_iff_ne]; omega
      have hpn : 0 < l.length := by omega
      have hp : (0 : Int) < l.length := by omega
      obtain ⟨ad, rfl, hx, _⟩ := HR.out 0 hpn
      have hlx : (l.getD 0 (0, 0)).1 = (l[0]'hpn).1 := by rw [List.getD_eq_getElem?_getD, List.getElem?_eq_getElem hpn]; rfl
      rw [← hlx] at hx
      clear hlx
      generalize (l.getD 0 (0, 0)).1 = x at *
      have hx1 : w1.cell? ad = some (.int .i64 x) := B1.out.cell (HB0.out.cell (p := ad) (by simpa [Addr.add] using hx) (HRB.out ad rfl (by omega))) (HRB.out ad rfl (by omega))
      clear hx
      by_cases hx0 : x = 0
      · have hx2 : ((x : Int) != 0) = false := by simpa using hx0
        rw [decide_eq_false hl0, decide_eq_true hx0] at hbad
        subst hbad
        clear hl0 hx0
        go_wp2_with fail
        refine (second (fun w2 => FB w2 b (n + 2) (tax0 g l) ∧ Hid (But (· = b) w1 w2)) (fun w2 h2 B2 => ⟨h2, Lib.hid B2⟩)).mono ?_
        rintro e w2 ⟨rfl, h2, B2⟩
        go_wp2_with fail
        go_meet
        exact ⟨h2, B2⟩
      · have hx2 : ((x : Int) != 0) = true := by simpa using hx0
        rw [decide_eq_false hl0, decide_eq_false hx0] at hbad
        subst hbad
        clear hl0 hx0
        go_wp2_with fail
        refine (second (fun w2 => FB w2 b (n + 2) (tax0 g l) ∧ Hid (But (· = b) w1 w2)) (fun w2 h2 B2 => ⟨h2, Lib.hid B2⟩)).mono ?_
        rintro e w2 ⟨rfl, h2, B2⟩
        go_wp2_with fail
        go_meet
        exact ⟨h2, B2⟩
  case rest =>
    obtain ⟨h2, B2⟩ := hcut
    have hs2 := B2.out.cell hs1 hnb
    have B02 := Lib.hid ((HB0.out.trans B1.out).trans B2.out)
    have hzc : w.heap.size + 1 ≤ wc.heap.size := Nat.le_trans hz0 (B1.out.trans B2.out).size
    clear hs0 hs1 h1 second hbad
    go_wp2_with fail
    go_loopw [29] (fun v wr => ∃ i : Nat, v = .int .i64 i ∧ i ≤ l.length ∧ FB wr b (n + 2 + 2 * i) (taxSt g l i) ∧ Hid (But (· = b) wc wr)) (fun v wr => l.length - (intOf v).toNat)
    case atStart => exact ⟨0, rfl, Nat.zero_le _, h2, Lib.hid (But.refl _ _)⟩
    case round =>
      obtain ⟨i, rfl, hi, hf, Br⟩ := hrel
      by_cases hil : i < l.length
      · obtain ⟨ad, rfl, hx, hy⟩ := HR.out i hil
        have hab : ad.block ≠ b := HRB.out ad rfl (by omega)
        have hx1 := Br.out.cell (B02.out.cell hx (by rw [add_block]; exact hab)) (by rw [add_block]; exact hab)
        have hy1 := Br.out.cell (B02.out.cell hy (show ¬ (ad.add (i * 2)).block = b by rw [add_block]; exact hab)) (show ¬ (ad.add (i * 2)).block = b by rw [add_block]; exact hab)
        have hsr := Br.out.cell hs2 hnb
        have hlx : l.getD i (0, 0) = l[i] := by rw [List.getD_eq_getElem?_getD, List.getElem?_eq_getElem hil]; rfl
        have hst : taxSt g l (i + 1) = addF (addF (taxSt g l i) 1 (decide (0 < i) && decide ((l.getD i (0, 0)).1 ≤ (l.getD (i - 1) (0, 0)).1))) 5 (outB (l.getD i (0, 0)).1 0 1099511627776 || outB (l.getD i (0, 0)).2 0 10000) := rfl
        rw [hlx] at hst
        clear hlx hx hy hs2 h2
        generalize l[i].1 = x at *
        generalize l[i].2 = y at *
        have hbr := hf.lt
        by_cases hi0 : 0 < i
        · have hi0I : (0 : Int) < (i : Int) := by omega
          obtain ⟨ad', e, hp, _⟩ := HR.out (i - 1) (by omega)
          cases e
          have hp1 := Br.out.cell (B02.out.cell hp (by rw [add_block]; exact hab)) (by rw [add_block]; exact hab)
          have hlp : l.getD (i - 1) (0, 0) = l[i - 1] := by rw [List.getD_eq_getElem?_getD, List.getElem?_eq_getElem (by omega)]; rfl
          rw [hlp] at hst
          generalize l[i - 1].1 = p at *
          have HST := Lib.hid hst
          clear hst hp hlp
          go_upto_region 6 with fail
          have q0 : (wr.alloc (.cells #[.int .i64 x, .int .i64 y] 37)).cell? ⟨wr.heap.size, 0, none⟩ = some (.int .i64 x) := blk_cell (blk_new wr _) 0
          have q1 : (wr.alloc (.cells #[.int .i64 x, .int .i64 y] 37)).cell? ⟨wr.heap.size, 1, none⟩ = some (.int .i64 y) := blk_cell (blk_new wr _) 1
          have hba := below_alloc (Below.refl wr.heap.size wr) (.cells #[.int .i64 x, .int .i64 y] 37)
          have hs5 := pw_cell_below hba hsr
          have hp5 := pw_cell_below hba hp1
          have hf5 := hf.below hba
          have B5 := Lib.hid (But.of_below (S := (· = b)) hba)
          obtain ⟨W1, hW1⟩ : ∃ W1, wr.alloc (.cells #[.int .i64 x, .int .i64 y] 37) = W1 := ⟨_, rfl⟩
          rw [hW1] at q0 q1 hs5 hp5 hf5 B5 ⊢
          clear hW1 hba hx1 hy1 hsr hp1 hf
          have y1 : IntKind.i64.wrap ((i : Int) - 1) = (i : Int) - 1 := IntWalk.i64_in _ (by omega)
          have y2 : (0 : Int) ≤ (i : Int) - 1 := by omega
          have y3 : (1 : Int) ≤ (i : Int) := by omega
          have y4 : (i : Int) - 1 < (l.length : Int) := by omega
          have y5 : ((i : Int) - 1).toNat = i - 1 := by omega
          go_still_tail 15, (by kernel_rfl)
          clear y1 y2 y3 y4 y5
          go_wp2_with fail
          refine (flt_add b (n + 2 + 2 * i) (taxSt g l i) 1 _ _ (hf5.below (below_drew (Below.refl _ _))) (by omega) (by decide)).mono ?_
          rintro e w2 ⟨rfl, h6, hg6⟩
          have B6 : But (· = b) W1 w2 := (But.of_below (below_drew (Below.refl _ _))).trans (But.of_grown hg6)
          have q0' := B6.cell q0 (show ¬ wr.heap.size = b by omega)
          have q1' := B6.cell q1 (show ¬ wr.heap.size = b by omega)
          have B7 := Lib.hid (Br.out.trans (B5.out.trans B6))
          clear q0 q1 hs5 hf5 hg6 B6 B5 hp5
          by_cases ho1 : outB x 0 1099511627776 = true
          · go_wp2_with fail
            refine (cat_out x 0 1099511627776 _).mono ?_
            rintro e w3 ⟨rfl, rfl⟩
            rw [ho1]
            go_wp2_with fail
            refine (flt_add b (n + 2 + 2 * i + 1) _ 5 _ _ h6 (by omega) (by decide)).mono ?_
            rintro e w4 ⟨rfl, h8, hg8⟩
            have B8 := Lib.hid (B7.out.trans (But.of_grown hg8))
            clear h6 hg8 q0' q1'
            go_wp2_with fail
            go_roundw
            case rel => exact ⟨i + 1, by go_num, by omega, by rw [HST.out, ho1]; rw [decide_eq_true hi0, Bool.true_and]; exact h8, B8⟩
            case measure => simp [intOf]; omega
          · have ho1' : outB x 0 1099511627776 = false := by simpa using ho1
            go_wp2_with fail
            refine (cat_out x 0 1099511627776 _).mono ?_
            rintro e w3 ⟨rfl, rfl⟩
            rw [ho1']
            go_wp2_with fail
            refine (cat_out y 0 10000 _).mono ?_
            rintro e w3 ⟨rfl, rfl⟩
            go_wp2_with fail
            refine (flt_add b (n + 2 + 2 * i + 1) _ 5 _ _ h6 (by omega) (by decide)).mono ?_
            rintro e w4 ⟨rfl, h8, hg8⟩
            have B8 := Lib.hid (B7.out.trans (But.of_grown hg8))
            clear h6 hg8 q0' q1'
            go_wp2_with fail
            go_roundw
            case rel => exact ⟨i + 1, by go_num, by omega, by rw [HST.out, ho1', Bool.false_or]; rw [decide_eq_true hi0, Bool.true_and]; exact h8, B8⟩
            case measure => simp [intOf]; omega
        · have hi0I : decide ((0 : Int) < (i : Int)) = false := decide_eq_false (by omega)
          have HST := Lib.hid hst
          clear hst
          go_upto_region 6 with fail
          have q0 : (wr.alloc (.cells #[.int .i64 x, .int .i64 y] 37)).cell? ⟨wr.heap.size, 0, none⟩ = some (.int .i64 x) := blk_cell (blk_new wr _) 0
          have q1 : (wr.alloc (.cells #[.int .i64 x, .int .i64 y] 37)).cell? ⟨wr.heap.size, 1, none⟩ = some (.int .i64 y) := blk_cell (blk_new wr _) 1
          have hba := below_alloc (Below.refl wr.heap.size wr) (.cells #[.int .i64 x, .int .i64 y] 37)
          have hs5 := pw_cell_below hba hsr
          have hf5 := hf.below hba
          have B5 := Lib.hid (But.of_below (S := (· = b)) hba)
          obtain ⟨W1, hW1⟩ : ∃ W1, wr.alloc (.cells #[.int .i64 x, .int .i64 y] 37) = W1 := ⟨_, rfl⟩
          rw [hW1] at q0 q1 hs5 hf5 B5 ⊢
          clear hW1 hba hx1 hy1 hsr hf
          refine wp_region_still_tail 15 (by kernel_rfl) (by kernel_rfl) ?_
          simp only [List.take_succ_cons, List.take_zero, List.drop_succ_cons, List.drop_zero]
          iterate 4 still_step
          iterate 10 ((with_reducible refine still_skip ?_ ?_); (with_reducible kernel_rfl); simp only [Act.put, List.setIfInBounds_toArray, List.set_cons_zero, List.set_cons_succ])
          still_step
          refine wpStill_nil ?_
          go_wp2_with fail
          refine (flt_add b (n + 2 + 2 * i) (taxSt g l i) 1 _ _ (hf5.below (below_drew (Below.refl _ _))) (by omega) (by decide)).mono ?_
          rintro e w2 ⟨rfl, h6, hg6⟩
          have B6 : But (· = b) W1 w2 := (But.of_below (below_drew (Below.refl _ _))).trans (But.of_grown hg6)
          have q0' := B6.cell q0 (show ¬ wr.heap.size = b by omega)
          have q1' := B6.cell q1 (show ¬ wr.heap.size = b by omega)
          have B7 := Lib.hid (Br.out.trans (B5.out.trans B6))
          clear q0 q1 hs5 hf5 hg6 B6 B5 
          by_cases ho1 : outB x 0 1099511627776 = true
          · go_wp2_with fail
            refine (cat_out x 0 1099511627776 _).mono ?_
            rintro e w3 ⟨rfl, rfl⟩
            rw [ho1]
            go_wp2_with fail
            refine (flt_add b (n + 2 + 2 * i + 1) _ 5 _ _ h6 (by omega) (by decide)).mono ?_
            rintro e w4 ⟨rfl, h8, hg8⟩
            have B8 := Lib.hid (B7.out.trans (But.of_grown hg8))
            clear h6 hg8 q0' q1'
            go_wp2_with fail
            go_roundw
            case rel => exact ⟨i + 1, by go_num, by omega, by rw [HST.out, ho1]; rw [decide_eq_false hi0, Bool.false_and]; exact h8, B8⟩
            case measure => simp [intOf]; omega
          · have ho1' : outB x 0 1099511627776 = false := by simpa using ho1
            go_wp2_with fail
            refine (cat_out x 0 1099511627776 _).mono ?_
            rintro e w3 ⟨rfl, rfl⟩
            rw [ho1']
            go_wp2_with fail
            refine (cat_out y 0 10000 _).mono ?_
            rintro e w3 ⟨rfl, rfl⟩
            go_wp2_with fail
            refine (flt_add b (n + 2 + 2 * i + 1) _ 5 _ _ h6 (by omega) (by decide)).mono ?_
            rintro e w4 ⟨rfl, h8, hg8⟩
            have B8 := Lib.hid (B7.out.trans (But.of_grown hg8))
            clear h6 hg8 q0' q1'
            go_wp2_with fail
            go_roundw
            case rel => exact ⟨i + 1, by go_num, by omega, by rw [HST.out, ho1', Bool.false_or]; rw [decide_eq_false hi0, Bool.false_and]; exact h8, B8⟩
            case measure => simp [intOf]; omega
      · obtain rfl : i = l.length := by omega
        go_wp2_with fail
        exact bodyPost_end (by first | rfl | simp [results, go_sem]) rfl ⟨rfl, hf, B02.out.trans Br.out⟩

end Go.Proofs.YtmahdomlmidfdaaDoor
