/- The walk of the iterator of lexer.parts. -/
import Derived.Test.YtmahdomlmidfdaaDoorLexw
import Derived.Test.YtmahdomlmidfdaaDoorLexs
import Derived.RangeFuncNested
import Derived.RangeFuncLeaves
import Derived.Shelf.Abstract
import Derived.OwnWalkIn
import Derived.TacticsInMore
import Derived.LoopNIn
import Derived.LoopIn
namespace Go.Proofs.YtmahdomlmidfdaaDoor
open Go.RowKit Go.Shelf Go.Proofs.YtmahdomlmidfdaaDoorW.PrintWords
attribute [local go_sem] Oper.semAt_some

theorem lexIn_cons (c : UInt8) (r set : List UInt8) : lexIn (c :: r) set = set.contains c := by
  have h : ∀ (l : List UInt8), decide (0 ≤ Lib.indexByte l c) = l.contains c := by
    intro l
    induction l with
    | nil => rfl
    | cons b l ih =>
      have hg := Lib.indexByte_ge l c
      unfold Lib.indexByte
      by_cases h1 : (b == c) = true
      · have : b = c := by simpa using h1
        subst this
        simp
      · have h2 : ¬ c = b := fun h => h1 (by simp [h])
        rw [if_neg h1]
        simp only [List.contains_cons, beq_iff_eq, h2, Bool.or_eq_true, false_or, beq_eq_false_iff_ne.2 h2, Bool.false_or]
        rw [← ih]
        by_cases h3 : Lib.indexByte l c = -1
        · simp [h3]
        · rw [if_neg (by simpa using h3)]
          simp only [decide_eq_decide]
          omega
  exact h set

theorem all8 (p : UInt8 → Bool) (h : (List.range 256).all (fun n => p (UInt8.ofNat n)) = true) (c : UInt8) : p c = true := by
  have h1 := List.all_eq_true.1 h c.toNat (List.mem_range.2 c.toNat_lt)
  simpa using h1
theorem con_b (c : UInt8) : [32, 9, 10].contains c = Lex.isB c := by
  have := all8 (fun c => [32, 9, 10].contains c == Lex.isB c) (by decide +kernel) c
  simpa using this
theorem con_l (c : UInt8) : ([97, 98, 99, 100, 101, 102, 103, 104, 105, 106, 107, 108, 109, 110, 111, 112, 113, 114, 115, 116, 117, 118, 119, 120, 121, 122] : List UInt8).contains c = Lex.isL c := by
  have := all8 (fun c => ([97, 98, 99, 100, 101, 102, 103, 104, 105, 106, 107, 108, 109, 110, 111, 112, 113, 114, 115, 116, 117, 118, 119, 120, 121, 122] : List UInt8).contains c == Lex.isL c) (by decide +kernel) c
  simpa using this
theorem con_d (c : UInt8) : ([48, 49, 50, 51, 52, 53, 54, 55, 56, 57] : List UInt8).contains c = Lex.isD c := by
  have := all8 (fun c => ([48, 49, 50, 51, 52, 53, 54, 55, 56, 57] : List UInt8).contains c == Lex.isD c) (by decide +kernel) c
  simpa using this
theorem con_w (c : UInt8) : ([97, 98, 99, 100, 101, 102, 103, 104, 105, 106, 107, 108, 109, 110, 111, 112, 113, 114, 115, 116, 117, 118, 119, 120, 121, 122, 48, 49, 50, 51, 52, 53, 54, 55, 56, 57, 95] : List UInt8).contains c = Lex.isW c := by
  have := all8 (fun c => ([97, 98, 99, 100, 101, 102, 103, 104, 105, 106, 107, 108, 109, 110, 111, 112, 113, 114, 115, 116, 117, 118, 119, 120, 121, 122, 48, 49, 50, 51, 52, 53, 54, 55, 56, 57, 95] : List UInt8).contains c == Lex.isW c) (by decide +kernel) c
  simpa using this

theorem asc {l : List UInt8} (h : l.all (fun b => b.toNat < 128) = true) (j : Nat) (b : UInt8) (hb : l[j]? = some b) : b.toNat < 128 := by
  have := List.all_eq_true.1 h b (List.mem_of_getElem? hb)
  simpa using this

theorem take_len (l : List UInt8) : ∀ (i : Nat), l[i]? = some 10 → (∀ j, j < i → l[j]? ≠ some 10) → (l.takeWhile (· != 10)).length = i := by
  induction l with
  | nil => intro i h; simp at h
  | cons c l ih =>
    intro i h hn
    cases i with
    | zero =>
      have : c = 10 := by simpa using h
      subst this
      simp
    | succ i =>
      have h0 : c ≠ 10 := by
        have := hn 0 (by omega)
        simpa using this
      have h1 := ih i (by simpa using h) (fun j hj => by have := hn (j + 1) (by omega); simpa using this)
      have h2 : (c != 10) = true := by simpa using h0
      rw [List.takeWhile_cons, if_pos h2, List.length_cons, h1]
theorem take_all (l : List UInt8) (hn : ∀ j : Nat, l[j]? ≠ some 10) : l.takeWhile (· != 10) = l := by
  induction l with
  | nil => rfl
  | cons c l ih =>
    have h0 : c ≠ 10 := by
      have := hn 0
      simpa using this
    have h2 : (c != 10) = true := by simpa using h0
    rw [List.takeWhile_cons, if_pos h2, ih (fun j => by have := hn (j + 1); simpa using this)]
theorem cut_len (l : List UInt8) : (Lib.cut l [10]).1.length = (l.takeWhile (· != 10)).length := by
  have hocc : ∀ j : Nat, l[j]? = some 10 → Lib.occAt l [10] j = true := by
    intro j h
    have hj := (List.getElem?_eq_some_iff.1 h).1
    have h3 : (l.drop j).take ([10] : List UInt8).length = [10] := by
      rw [List.drop_eq_getElem_cons hj]
      simp only [List.length_cons, List.length_nil, Nat.zero_add, List.take_succ_cons, List.take_zero]
      rw [(List.getElem?_eq_some_iff.1 h).2]
    rw [Lib.occAt_iff_take _ _ _ (by simp; omega), h3]
    rfl
  rcases Lib.index_spec l [10] with ⟨h1, h2⟩ | ⟨i, h1, h2, h3, h4⟩
  · unfold Lib.cut
    rw [h1, if_neg (by decide), take_all]
    intro j hj
    have h5 := hocc j hj
    rw [h2 j (Nat.le_of_lt (List.getElem?_eq_some_iff.1 hj).1)] at h5
    cases h5
  · unfold Lib.cut
    rw [h1, if_pos (by omega), List.length_take]
    rw [take_len l i (Lib.occAt_head rfl h3) (fun j hj h5 => by
      have h6 := hocc j h5
      rw [h4 j hj] at h6
      cases h6)]
    simp only [Int.toNat_natCast]
    omega

def tkv (x : Lex.Tk) : Value := .agg #[.int .i64 x.kind, .string ⟨x.text.toArray⟩, .int .i64 0, .int .i64 x.at_]

set_option maxRecDepth 100000 in
set_option maxHeartbeats 2000000 in
theorem parts1 (n l Bs n0 : Nat) (s : ByteArray) (hs : s.size ≤ 8192) (J Jx : List Lex.Tk → World → Prop)
    (hJ : ∀ pre A B, J pre A → Below A.heap.size A B → J pre B)
    (hgood : ∀ pre W, J pre W → ∀ x ∈ pre, x.text ≠ [])
    (hGK : ∀ pre W, J pre W → GOK W)
    (hY : ∀ pre x W, J pre W → pre.length < s.size → x.text.length ≤ s.size → YieldAt Fence.wide (n - 1) Tryd.prog l #[.int .i64 x.at_, tkv x] W fun e W' =>
      (e = .returned (.bool true) ∧ J (pre ++ [x]) W' ∧ W'.cell? ⟨Bs, 0, none⟩ = some (.string s) ∧ n0 ≤ W'.heap.size) ∨ (e = .returned (.bool false) ∧ Jx (pre ++ [x]) W'))
    (W : World) (hBs : Bs < n0) (hn0 : n0 ≤ W.heap.size) (hc : W.cell? ⟨Bs, 0, none⟩ = some (.string s)) (h0 : J [] W) :
    CallsIn Fence.wide n Tryd.prog 48 #[.func (.yield l) #[] #[], .pointer (some ⟨Bs, 0, none⟩)] W fun e W' => (∃ v, e = .returned v) ∧
      (J (Lex.items s.data.toList.length s.data.toList 0) W' ∨ (∃ pre, pre <+: Lex.items s.data.toList.length s.data.toList 0 ∧ pre ≠ [] ∧ Jx pre W')) := by
  refine callsIn_of_wp Tryd.func48 rfl trivial ?_ rfl
  simp only [Tryd.ntmps48, List.size_toArray, List.length_cons, List.length_nil, Nat.reduceAdd, Nat.reduceSub, Array.replicate_succ, Array.replicate_zero, List.push_toArray, List.append_toArray, List.nil_append, List.cons_append]
  gi_wp2
  gi_loopw [3] (fun v wr => ∃ (pre : List Lex.Tk) (p : Nat), v = .int .i64 p ∧ p ≤ s.size ∧ pre.length ≤ p ∧ Lex.items s.data.toList.length s.data.toList 0 = pre ++ Lex.items (s.size - p) (s.data.toList.drop p) p ∧ n0 ≤ wr.heap.size ∧ wr.cell? ⟨Bs, 0, none⟩ = some (.string s) ∧ J pre wr)
    (fun v wr => s.size - (intOf v).toNat)
  case atStart => exact ⟨[], 0, rfl, Nat.zero_le _, Nat.le_refl _, by rw [List.drop_zero, Lib.size_eq]; rfl, hn0, hc, h0⟩
  case round =>
    obtain ⟨pre, p, rfl, hp, hpl, hit, hn, hcell, hj⟩ := hrel
    have HIT := Lib.hid hit
    clear hit
    by_cases hlt : p < s.size
    · rcases hrl : s.data.toList.drop p with _ | ⟨c, tl⟩
      · have h1 := congrArg List.length hrl
        have h2 := Lib.size_eq s
        simp at h1
        omega
      have hlen : (c :: tl).length = s.size - p := by
        rw [← hrl, List.length_drop, Lib.size_eq]
      have hin : ∀ (set : ByteArray) (W : World), Calls Tryd.prog 49 #[.string (s.extract p s.size), .string set] W fun e w' => e = .returned (.bool (set.data.toList.contains c)) ∧ w' = W := by
        intro set W
        have := lex_in (s.extract p s.size) set W
        rw [Lib.extract_to_end, hrl, lexIn_cons] at this
        exact this
      have hsp : ∀ (set : ByteArray) (m : Nat) (W : World), set.size < 4294967281 → (∀ (j : Nat) b, set.data.toList[j]? = some b → b.toNat < 128) → ((c :: tl).takeWhile (set.data.toList.contains ·)).length = m →
          Calls Tryd.prog 50 #[.string (s.extract p s.size), .string set] W fun e w' => e = .returned (.int .i64 m) ∧ Below W.heap.size W w' := by
        intro set m W h1 h2 h3
        have := lex_span (s.extract p s.size) set W (by rw [ByteArray.size_extract]; omega) h1 h2
        rw [Lib.extract_to_end, hrl, h3] at this
        exact this
      have hst := Lex.step_le (c :: tl)
      by_cases hb : Lex.isB c = true
      · have hs1 : Lex.step (c :: tl) = .skip (Lex.span Lex.isB (c :: tl)) := by rw [Lex.step_cons, if_pos hb]
        have hle := hst.1 _ hs1
        have hpos := Lex.skip_pos hs1
        have c1 : ∀ W, Calls Tryd.prog 49 #[.string (s.extract p s.size), .string ⟨#[32, 9, 10]⟩] W fun e w' => e = .returned (.bool true) ∧ w' = W := fun W => by
          have := hin ⟨#[32, 9, 10]⟩ W
          rw [show (⟨#[32, 9, 10]⟩ : ByteArray).data.toList.contains c = true from by rw [← hb, ← con_b]] at this
          exact this
        have c2 : ∀ W, Calls Tryd.prog 50 #[.string (s.extract p s.size), .string ⟨#[32, 9, 10]⟩] W fun e w' => e = .returned (.int .i64 (Lex.span Lex.isB (c :: tl) : Nat)) ∧ Below W.heap.size W w' := fun W =>
          hsp ⟨#[32, 9, 10]⟩ _ W (by decide) (asc (by decide)) (by unfold Lex.span; congr 2; funext d; exact con_b d)
        obtain ⟨m, hm⟩ : ∃ m, Lex.span Lex.isB (c :: tl) = m := ⟨_, rfl⟩
        rw [hm] at c2 hle hpos hs1
        have C1 := Lib.hid c1
        have C2 := Lib.hid c2
        have HL := Lib.hid hlen
        have HRL := Lib.hid hrl
        have HS1 := Lib.hid hs1
        rw [hlen] at hle
        clear c1 c2 hlen hrl hs1 hin hsp hst hm
        gi_wp2_with fail
        refine ⟨trivial, (fun h => by cases h), ?_⟩
        refine (callsIn_wide.2 (C1.out _)).mono ?_
        rintro e w1 ⟨rfl, rfl⟩
        gi_wp2_with fail
        refine ⟨trivial, (fun h => by cases h), ?_⟩
        refine (callsIn_wide.2 (C2.out _)).mono ?_
        rintro e w2 ⟨rfl, hB2⟩
        gi_wp2_with fail
        have hz : p + m ≤ s.size := by omega
        go_roundw
        case rel =>
          refine ⟨pre, p + m, by go_num, hz, by omega, ?_, Nat.le_trans hn hB2.size, (hB2.cell (p := ⟨Bs, 0, none⟩) (by show Bs < _; omega)).trans hcell, hJ _ _ _ hj hB2⟩
          have h1 := Lex.items_skip s.data.toList p m (by have := Lib.size_eq s; omega) (by rw [HRL.out]; exact HS1.out) hpos (by have := Lib.size_eq s; omega)
          have h2 := Lib.size_eq s
          rw [HIT.out, h2, h1]
        case measure => simp [intOf]; omega
      · have hb' : Lex.isB c = false := by simpa using hb
        have c1 : ∀ W, Calls Tryd.prog 49 #[.string (s.extract p s.size), .string ⟨#[32, 9, 10]⟩] W fun e w' => e = .returned (.bool false) ∧ w' = W := fun W => by
          have := hin ⟨#[32, 9, 10]⟩ W
          rw [show (⟨#[32, 9, 10]⟩ : ByteArray).data.toList.contains c = false from by rw [← hb', ← con_b]] at this
          exact this
        have C1 := Lib.hid c1
        clear c1
        have hsz : p < (s.extract p s.size).size + p := by rw [ByteArray.size_extract]; omega
        have hi0 : ∀ h, (s.extract p s.size)[0]'h = c := by
          intro h
          have h1 : (s.extract p s.size).data.toList[0]? = some c := by rw [Lib.extract_to_end, hrl]; rfl
          have h2 : (s.extract p s.size).data[0]? = some c := by rw [← Array.getElem?_toList]; exact h1
          exact (Array.getElem?_eq_some_iff.1 h2).2
        have hlz : 0 < (s.extract p s.size).size := by omega
        have hi1 : ((s.extract p s.size)[0]'hlz).toNat = c.toNat := by rw [hi0]
        by_cases hcm : c = 35
        · have hq : (((s.extract p s.size)[0]'hlz).toNat : Int) = 35 := by rw [hi1, hcm]; rfl
          have hq2 : ((((s.extract p s.size)[0]'hlz).toNat : Int) == 35) = true := beq_iff_eq.2 hq
          clear hi0 hi1 hq
          have hs1 : Lex.step (c :: tl) = .skip (Lex.span (· != 10) (c :: tl)) := by rw [Lex.step_cons, if_neg hb, if_pos hcm]
          have hle := hst.1 _ hs1
          have hpos := Lex.skip_pos hs1
          have hmx := (hGK _ _ hj).base.maxLen
          obtain ⟨mx, hmx⟩ := hmx
          have c2 : ∃ t1 t2 : ByteArray, ∃ b : Bool, t1.size = Lex.span (· != 10) (c :: tl) ∧ Calls Tryd.prog 51 #[.string (s.extract p s.size), .string ⟨#[10]⟩] wr fun e w' => e = .returned (.tuple #[.string t1, .string t2, .bool b]) ∧ ∃ n, w' = wr.drewN n := by
            refine ⟨_, _, _, ?_, Tryd.strings_Cut (s.extract p s.size) ⟨#[10]⟩ mx wr (by rw [ByteArray.size_extract]; omega) hmx⟩
            rw [Lib.size_eq]
            show (Lib.cut (s.extract p s.size).data.toList [10]).1.length = _
            rw [cut_len, Lib.extract_to_end, hrl]
            rfl
          obtain ⟨t1, t2, b2, ht, c2⟩ := c2
          obtain ⟨m, hm⟩ : ∃ m, Lex.span (· != 10) (c :: tl) = m := ⟨_, rfl⟩
          rw [hm] at hle hpos hs1 ht
          have hle' : t1.size ≤ s.size - p := by rw [ht, ← hlen]; exact hle
          have hpos' : 1 ≤ t1.size := by rw [ht]; exact hpos
          have C2 := Lib.hid c2
          have HL := Lib.hid hlen
          have HRL := Lib.hid hrl
          have HS1 := Lib.hid hs1
          have HT := Lib.hid ht
          clear c2 hlen hrl hs1 hin hsp hst hm ht hle hpos hmx
          gi_wp2_with fail
          refine ⟨trivial, (fun h => by cases h), ?_⟩
          refine (callsIn_wide.2 (C1.out _)).mono ?_
          rintro e w1 ⟨rfl, rfl⟩
          gi_wp2_with fail
          refine ⟨trivial, (fun h => by cases h), ?_⟩
          refine (callsIn_wide.2 C2.out).mono ?_
          rintro e w2 ⟨rfl, nd, rfl⟩
          gi_wp2_with fail
          have hz : p + t1.size ≤ s.size := by omega
          go_roundw
          case rel =>
            refine ⟨pre, p + t1.size, by go_num, hz, by omega, ?_, hn, hcell, hJ _ _ _ hj (YtmahdomlmidfdaaDoorW.PrintWords.pw_below_drewN (Below.refl _ _) _)⟩
            have h1 := Lex.items_skip s.data.toList p t1.size (by have := Lib.size_eq s; omega) (by rw [HRL.out, HT.out]; exact HS1.out) hpos' (by have := Lib.size_eq s; omega)
            have h2 := Lib.size_eq s
            rw [HIT.out, h2, h1]
          case measure => simp [intOf]; omega
        · have hq2 : ((((s.extract p s.size)[0]'hlz).toNat : Int) == 35) = false := beq_eq_false_iff_ne.2 (fun h => hcm (by
            rw [hi1] at h
            have h3 : c.toNat = 35 := by omega
            exact UInt8.toNat_inj.1 h3))
          clear hi0 hi1
          by_cases hl : Lex.isL c = true
          · have hs1 : Lex.step (c :: tl) = .tok 0 (Lex.span Lex.isW (c :: tl)) := by rw [Lex.step_cons, if_neg hb, if_neg hcm, if_pos hl]
            have hle := hst.2 _ _ hs1
            have hpos : 1 ≤ Lex.span Lex.isW (c :: tl) := Lex.span_pos (Lex.isW_of_isL hl)
            have c2 : ∀ W, Calls Tryd.prog 49 #[.string (s.extract p s.size), .string ⟨#[97, 98, 99, 100, 101, 102, 103, 104, 105, 106, 107, 108, 109, 110, 111, 112, 113, 114, 115, 116, 117, 118, 119, 120, 121, 122]⟩] W fun e w' => e = .returned (.bool true) ∧ w' = W := fun W => by
              have := hin ⟨#[97, 98, 99, 100, 101, 102, 103, 104, 105, 106, 107, 108, 109, 110, 111, 112, 113, 114, 115, 116, 117, 118, 119, 120, 121, 122]⟩ W
              rw [show (⟨#[97, 98, 99, 100, 101, 102, 103, 104, 105, 106, 107, 108, 109, 110, 111, 112, 113, 114, 115, 116, 117, 118, 119, 120, 121, 122]⟩ : ByteArray).data.toList.contains c = true from by rw [← hl, ← con_l]] at this
              exact this
            have c3 : ∀ W, Calls Tryd.prog 50 #[.string (s.extract p s.size), .string ⟨#[97, 98, 99, 100, 101, 102, 103, 104, 105, 106, 107, 108, 109, 110, 111, 112, 113, 114, 115, 116, 117, 118, 119, 120, 121, 122, 48, 49, 50, 51, 52, 53, 54, 55, 56, 57, 95]⟩] W fun e w' => e = .returned (.int .i64 (Lex.span Lex.isW (c :: tl) : Nat)) ∧ Below W.heap.size W w' := fun W =>
              hsp ⟨#[97, 98, 99, 100, 101, 102, 103, 104, 105, 106, 107, 108, 109, 110, 111, 112, 113, 114, 115, 116, 117, 118, 119, 120, 121, 122, 48, 49, 50, 51, 52, 53, 54, 55, 56, 57, 95]⟩ _ W (by decide) (asc (by decide)) (by unfold Lex.span; congr 2; funext d; exact con_w d)
            obtain ⟨m, hm⟩ : ∃ m, Lex.span Lex.isW (c :: tl) = m := ⟨_, rfl⟩
            rw [hm] at c3 hle hpos hs1
            have hle' : m ≤ s.size - p := by rw [← hlen]; exact hle
            have C2 := Lib.hid c2
            have C3 := Lib.hid c3
            have HL := Lib.hid hlen
            have HRL := Lib.hid hrl
            have HS1 := Lib.hid hs1
            clear c2 c3 hlen hrl hs1 hin hsp hst hm hle
            gi_wp2_with fail
            refine ⟨trivial, (fun h => by cases h), ?_⟩
            refine (callsIn_wide.2 (C1.out _)).mono ?_
            rintro e w1 ⟨rfl, rfl⟩
            gi_wp2_with fail
            refine ⟨trivial, (fun h => by cases h), ?_⟩
            refine (callsIn_wide.2 (C2.out _)).mono ?_
            rintro e w2 ⟨rfl, rfl⟩
            gi_wp2_with fail
            refine ⟨trivial, (fun h => by cases h), ?_⟩
            refine (callsIn_wide.2 (C3.out _)).mono ?_
            rintro e w2 ⟨rfl, hB2⟩
            have hblk : w2.heap[w1.heap.size]? = some (.cells #[.int .i64 0, .string ⟨#[]⟩, .int .i64 0, .int .i64 p] 99 (0, 0)) := (hB2.block w1.heap.size (by simp)).trans (World.alloc_heap_new _ _)
            have hk0 := blk_cell hblk 0
            have hk1 := blk_cell hblk 1
            have hk2 := blk_cell hblk 2
            have hk3 := blk_cell hblk 3
            have hf0 := blk_frozen hblk 0
            have hf1 := blk_frozen hblk 1
            have hf2 := blk_frozen hblk 2
            have hf3 := blk_frozen hblk 3
            have hB3 : Below w1.heap.size w1 (w2.setCell ⟨w1.heap.size, 1, none⟩ (.string ((s.extract p s.size).extract 0 m))) := (((Below.refl _ w1).alloc (Nat.le_refl _) _).trans (hB2.mono (by simp))).setCell (p := ⟨w1.heap.size, 1, none⟩) (Nat.le_refl _) _
            obtain ⟨fn, tmps, assign, body, hy, hR⟩ := hY pre ⟨0, (c :: tl).take m, p⟩ _ (hJ _ _ _ hj hB3) (by omega) (by rw [List.length_take]; omega)
            have e1 : (⟨((c :: tl).take m).toArray⟩ : ByteArray) = (s.extract p s.size).extract 0 m := by
              rw [← HRL.out, ← Lib.extract_to_end, ← Lib.extract_upto]
            simp only [tkv, e1] at hy
            have HF := Lib.hid (Lex.tok_step s.data.toList pre _ s.size p m 0 (Lib.size_eq s).symm hlt HIT.out (by rw [HRL.out]; exact HS1.out) (by omega))
            rw [HRL.out] at HF
            clear HIT e1
            gi_wp2_with fail
            refine ⟨(fun h => by cases h), ?_⟩
            refine hR.mono ?_
            rintro e W3 (⟨rfl, hJ3, hkp⟩ | ⟨rfl, hJx3⟩)
            · have hm0 : 1 ≤ m := by
                have := hgood _ _ hJ3 ⟨0, (c :: tl).take m, p⟩ (by simp)
                rcases m with _ | m
                · simp at this
                · omega
              have hz : p + m ≤ s.size := by omega
              have hc3 := hkp.1
              have hn3 := hkp.2
              clear hk0 hk1 hk2 hk3 hf0 hf1 hf2 hf3 hy hR hblk
              gi_wp2_with fail
              go_roundw
              case rel =>
                refine ⟨_, p + m, by go_num, hz, by simp; omega, ?_, hn3, hc3, hJ3⟩
                have h3 := HF.out
                rw [if_neg (by omega)] at h3
                exact h3
              case measure => simp [intOf]; omega
            · clear hk0 hk1 hk2 hk3 hf0 hf1 hf2 hf3 hy hR hblk
              gi_wp2_with fail
              refine bodyPost_ret (results_none rfl _ _ _) rfl ?_
              exact ⟨⟨_, rfl⟩, .inr ⟨_, ⟨_, HF.out.symm⟩, by simp, hJx3⟩⟩
          · have hl' : Lex.isL c = false := by simpa using hl
            by_cases hd : Lex.isD c = true
            · have hs1 : Lex.step (c :: tl) = .tok 1 (Lex.span Lex.isD (c :: tl)) := by rw [Lex.step_cons, if_neg hb, if_neg hcm, if_neg hl, if_pos hd]
              have hle := hst.2 _ _ hs1
              have c2 : ∀ W, Calls Tryd.prog 49 #[.string (s.extract p s.size), .string ⟨#[97, 98, 99, 100, 101, 102, 103, 104, 105, 106, 107, 108, 109, 110, 111, 112, 113, 114, 115, 116, 117, 118, 119, 120, 121, 122]⟩] W fun e w' => e = .returned (.bool false) ∧ w' = W := fun W => by
                have := hin ⟨#[97, 98, 99, 100, 101, 102, 103, 104, 105, 106, 107, 108, 109, 110, 111, 112, 113, 114, 115, 116, 117, 118, 119, 120, 121, 122]⟩ W
                rw [show (⟨#[97, 98, 99, 100, 101, 102, 103, 104, 105, 106, 107, 108, 109, 110, 111, 112, 113, 114, 115, 116, 117, 118, 119, 120, 121, 122]⟩ : ByteArray).data.toList.contains c = false from by rw [← hl', ← con_l]] at this
                exact this
              have c4 : ∀ W, Calls Tryd.prog 49 #[.string (s.extract p s.size), .string ⟨#[48, 49, 50, 51, 52, 53, 54, 55, 56, 57]⟩] W fun e w' => e = .returned (.bool true) ∧ w' = W := fun W => by
                have := hin ⟨#[48, 49, 50, 51, 52, 53, 54, 55, 56, 57]⟩ W
                rw [show (⟨#[48, 49, 50, 51, 52, 53, 54, 55, 56, 57]⟩ : ByteArray).data.toList.contains c = true from by rw [← hd, ← con_d]] at this
                exact this
              have c3 : ∀ W, Calls Tryd.prog 50 #[.string (s.extract p s.size), .string ⟨#[48, 49, 50, 51, 52, 53, 54, 55, 56, 57]⟩] W fun e w' => e = .returned (.int .i64 (Lex.span Lex.isD (c :: tl) : Nat)) ∧ Below W.heap.size W w' := fun W =>
                hsp ⟨#[48, 49, 50, 51, 52, 53, 54, 55, 56, 57]⟩ _ W (by decide) (asc (by decide)) (by unfold Lex.span; congr 2; funext d; exact con_d d)
              obtain ⟨m, hm⟩ : ∃ m, Lex.span Lex.isD (c :: tl) = m := ⟨_, rfl⟩
              rw [hm] at c3 hle hs1
              have hle' : m ≤ s.size - p := by rw [← hlen]; exact hle
              have C2 := Lib.hid c2
              have C3 := Lib.hid c3
              have C4 := Lib.hid c4
              have HL := Lib.hid hlen
              have HRL := Lib.hid hrl
              have HS1 := Lib.hid hs1
              clear c2 c3 c4 hlen hrl hs1 hin hsp hst hm hle
              gi_wp2_with fail
              refine ⟨trivial, (fun h => by cases h), ?_⟩
              refine (callsIn_wide.2 (C1.out _)).mono ?_
              rintro e w1 ⟨rfl, rfl⟩
              gi_wp2_with fail
              refine ⟨trivial, (fun h => by cases h), ?_⟩
              refine (callsIn_wide.2 (C2.out _)).mono ?_
              rintro e w2 ⟨rfl, rfl⟩
              gi_wp2_with fail
              refine ⟨trivial, (fun h => by cases h), ?_⟩
              refine (callsIn_wide.2 (C4.out _)).mono ?_
              rintro e w3 ⟨rfl, rfl⟩
              gi_wp2_with fail
              refine ⟨trivial, (fun h => by cases h), ?_⟩
              refine (callsIn_wide.2 (C3.out _)).mono ?_
              rintro e w2 ⟨rfl, hB2⟩
              have hblk : w2.heap[w1.heap.size]? = some (.cells #[.int .i64 1, .string ⟨#[]⟩, .int .i64 0, .int .i64 p] 99 (0, 0)) := (hB2.block w1.heap.size (by simp)).trans (World.alloc_heap_new _ _)
              have hk0 := blk_cell hblk 0
              have hk1 := blk_cell hblk 1
              have hk2 := blk_cell hblk 2
              have hk3 := blk_cell hblk 3
              have hf0 := blk_frozen hblk 0
              have hf1 := blk_frozen hblk 1
              have hf2 := blk_frozen hblk 2
              have hf3 := blk_frozen hblk 3
              have hB3 : Below w1.heap.size w1 (w2.setCell ⟨w1.heap.size, 1, none⟩ (.string ((s.extract p s.size).extract 0 m))) := (((Below.refl _ w1).alloc (Nat.le_refl _) _).trans (hB2.mono (by simp))).setCell (p := ⟨w1.heap.size, 1, none⟩) (Nat.le_refl _) _
              obtain ⟨fn, tmps, assign, body, hy, hR⟩ := hY pre ⟨1, (c :: tl).take m, p⟩ _ (hJ _ _ _ hj hB3) (by omega) (by rw [List.length_take]; omega)
              have e1 : (⟨((c :: tl).take m).toArray⟩ : ByteArray) = (s.extract p s.size).extract 0 m := by
                rw [← HRL.out, ← Lib.extract_to_end, ← Lib.extract_upto]
              simp only [tkv, e1] at hy
              have HF := Lib.hid (Lex.tok_step s.data.toList pre _ s.size p m 1 (Lib.size_eq s).symm hlt HIT.out (by rw [HRL.out]; exact HS1.out) (by omega))
              rw [HRL.out] at HF
              clear HIT e1
              gi_wp2_with fail
              refine ⟨(fun h => by cases h), ?_⟩
              refine hR.mono ?_
              rintro e W3 (⟨rfl, hJ3, hkp⟩ | ⟨rfl, hJx3⟩)
              · have hm0 : 1 ≤ m := by
                  have := hgood _ _ hJ3 ⟨1, (c :: tl).take m, p⟩ (by simp)
                  rcases m with _ | m
                  · simp at this
                  · omega
                have hz : p + m ≤ s.size := by omega
                have hc3 := hkp.1
                have hn3 := hkp.2
                clear hk0 hk1 hk2 hk3 hf0 hf1 hf2 hf3 hy hR hblk
                gi_wp2_with fail
                go_roundw
                case rel =>
                  refine ⟨_, p + m, by go_num, hz, by simp; omega, ?_, hn3, hc3, hJ3⟩
                  have h3 := HF.out
                  rw [if_neg (by omega)] at h3
                  exact h3
                case measure => simp [intOf]; omega
              · clear hk0 hk1 hk2 hk3 hf0 hf1 hf2 hf3 hy hR hblk
                gi_wp2_with fail
                refine bodyPost_ret (results_none rfl _ _ _) rfl ?_
                exact ⟨⟨_, rfl⟩, .inr ⟨_, ⟨_, HF.out.symm⟩, by simp, hJx3⟩⟩
            · have hd' : Lex.isD c = false := by simpa using hd
              have hs1 : Lex.step (c :: tl) = .tok 2 (Lex.symLen (c :: tl)) := by rw [Lex.step_cons, if_neg hb, if_neg hcm, if_neg hl, if_neg hd]
              have hle := hst.2 _ _ hs1
              have c2 : ∀ W, Calls Tryd.prog 49 #[.string (s.extract p s.size), .string ⟨#[97, 98, 99, 100, 101, 102, 103, 104, 105, 106, 107, 108, 109, 110, 111, 112, 113, 114, 115, 116, 117, 118, 119, 120, 121, 122]⟩] W fun e w' => e = .returned (.bool false) ∧ w' = W := fun W => by
                have := hin ⟨#[97, 98, 99, 100, 101, 102, 103, 104, 105, 106, 107, 108, 109, 110, 111, 112, 113, 114, 115, 116, 117, 118, 119, 120, 121, 122]⟩ W
                rw [show (⟨#[97, 98, 99, 100, 101, 102, 103, 104, 105, 106, 107, 108, 109, 110, 111, 112, 113, 114, 115, 116, 117, 118, 119, 120, 121, 122]⟩ : ByteArray).data.toList.contains c = false from by rw [← hl', ← con_l]] at this
                exact this
              have c4 : ∀ W, Calls Tryd.prog 49 #[.string (s.extract p s.size), .string ⟨#[48, 49, 50, 51, 52, 53, 54, 55, 56, 57]⟩] W fun e w' => e = .returned (.bool false) ∧ w' = W := fun W => by
                have := hin ⟨#[48, 49, 50, 51, 52, 53, 54, 55, 56, 57]⟩ W
                rw [show (⟨#[48, 49, 50, 51, 52, 53, 54, 55, 56, 57]⟩ : ByteArray).data.toList.contains c = false from by rw [← hd', ← con_d]] at this
                exact this
              have hpf : ∀ (q : ByteArray) W, Calls Tryd.prog 53 #[.string (s.extract p s.size), .string q] W fun e w' => e = .returned (.bool (q.data.toList.isPrefixOf (c :: tl))) ∧ w' = W := fun q W => by
                have := Tryd.strings_HasPrefix (s.extract p s.size) q W
                unfold Lib.hasPrefix at this
                rw [Lib.extract_to_end, hrl] at this
                exact this
              have hsf := Lex.symFind_syms c tl
              obtain ⟨m, hm⟩ : ∃ m, Lex.symLen (c :: tl) = m := ⟨_, rfl⟩
              rw [hm] at hle hs1 hsf
              have hle' : m ≤ s.size - p := by rw [← hlen]; exact hle
              have C2 := Lib.hid c2
              have C4 := Lib.hid c4
              have CP := Lib.hid hpf
              have HL := Lib.hid hlen
              have HRL := Lib.hid hrl
              have HS1 := Lib.hid hs1
              have HSF := Lib.hid hsf
              clear c2 c4 hpf hlen hrl hs1 hin hsp hst hm hle hsf
              gi_wp2_with fail
              refine ⟨trivial, (fun h => by cases h), ?_⟩
              refine (callsIn_wide.2 (C1.out _)).mono ?_
              rintro e w1 ⟨rfl, rfl⟩
              gi_wp2_with fail
              refine ⟨trivial, (fun h => by cases h), ?_⟩
              refine (callsIn_wide.2 (C2.out _)).mono ?_
              rintro e w2 ⟨rfl, rfl⟩
              gi_wp2_with fail
              refine ⟨trivial, (fun h => by cases h), ?_⟩
              refine (callsIn_wide.2 (C4.out _)).mono ?_
              rintro e w3 ⟨rfl, rfl⟩
              gi_wp2_with fail
              refine ⟨trivial, (fun h => by cases h), ?_⟩
              refine (callsIn_wide.2 (lex_symbols _)).mono ?_
              rintro e w5 ⟨rfl, rfl⟩
              gi_wp2_with fail
              have hW5s : ((w1.alloc (.cells #[.int .i64 2, .string ⟨#[]⟩, .int .i64 0, .int .i64 p] 99)).alloc (.cells symVals 9)).heap.size = w1.heap.size + 2 := by simp
              have hB2 : Below w1.heap.size w1 ((w1.alloc (.cells #[.int .i64 2, .string ⟨#[]⟩, .int .i64 0, .int .i64 p] 99)).alloc (.cells symVals 9)) := ((Below.refl _ w1).alloc (Nat.le_refl _) _).alloc (by simp) _
              have hblk : ((w1.alloc (.cells #[.int .i64 2, .string ⟨#[]⟩, .int .i64 0, .int .i64 p] 99)).alloc (.cells symVals 9)).heap[w1.heap.size]? = some (.cells #[.int .i64 2, .string ⟨#[]⟩, .int .i64 0, .int .i64 p] 99 (0, 0)) := (Below.heap_alloc _ _ _ (by simp)).trans (World.alloc_heap_new _ _)
              have hbls : ((w1.alloc (.cells #[.int .i64 2, .string ⟨#[]⟩, .int .i64 0, .int .i64 p] 99)).alloc (.cells symVals 9)).heap[w1.heap.size + 1]? = some (.cells symVals 9 (0, 0)) := by have := World.alloc_heap_new (w1.alloc (.cells #[.int .i64 2, .string ⟨#[]⟩, .int .i64 0, .int .i64 p] 99)) (.cells symVals 9); rwa [World.size_alloc] at this
              obtain ⟨w2, hw2⟩ : ∃ w2, (w1.alloc (.cells #[.int .i64 2, .string ⟨#[]⟩, .int .i64 0, .int .i64 p] 99)).alloc (.cells symVals 9) = w2 := ⟨_, rfl⟩
              rw [hw2] at hW5s hB2 hblk hbls ⊢
              clear hw2
              have hk0 := blk_cell hblk 0
              have hk1 := blk_cell hblk 1
              have hk2 := blk_cell hblk 2
              have hk3 := blk_cell hblk 3
              have hf0 := blk_frozen hblk 0
              have hf1 := blk_frozen hblk 1
              have hf2 := blk_frozen hblk 2
              have hf3 := blk_frozen hblk 3
              have hB3 : Below w1.heap.size w1 (w2.setCell ⟨w1.heap.size, 1, none⟩ (.string ((s.extract p s.size).extract 0 m))) := hB2.setCell (p := ⟨w1.heap.size, 1, none⟩) (Nat.le_refl _) _
              obtain ⟨fn, tmps, assign, body, hy, hR⟩ := hY pre ⟨2, (c :: tl).take m, p⟩ _ (hJ _ _ _ hj hB3) (by omega) (by rw [List.length_take]; omega)
              have e1 : (⟨((c :: tl).take m).toArray⟩ : ByteArray) = (s.extract p s.size).extract 0 m := by
                rw [← HRL.out, ← Lib.extract_to_end, ← Lib.extract_upto]
              simp only [tkv, e1] at hy
              have HF := Lib.hid (Lex.tok_step s.data.toList pre _ s.size p m 2 (Lib.size_eq s).symm hlt HIT.out (by rw [HRL.out]; exact HS1.out) (by omega))
              rw [HRL.out] at HF
              clear HIT e1
              have hcs : ∀ k : Nat, k < 13 → w2.cell? ⟨w1.heap.size + 1, k, none⟩ = some (.string (symBA.getD k ByteArray.empty)) := fun k h => (blk_cell hbls k).trans (symVals_at k h)
              have HCS := Lib.hid hcs
              clear hcs hbls
              gi_loopw [9, 44] (fun v9 v44 wr => ∃ k : Nat, v44 = .int .i64 k ∧ v9 = .int .i64 0 ∧ k ≤ 13 ∧ Hid (Lex.symFind (Lex.syms.drop k) (c :: tl) = m) ∧ wr = w2) (fun _ v _ => 13 - (intOf v).toNat)
              case atStart => exact ⟨0, rfl, rfl, by omega, HSF, rfl⟩
              case round =>
                obtain ⟨k, rfl, rfl, hk13, hsf, rfl⟩ := hrel
                by_cases hk : k < 13
                · have hck := HCS.out k hk
                  have hdr := Lex.syms_drop k hk (c :: tl)
                  rw [hsf.out] at hdr
                  obtain ⟨q, hq⟩ : ∃ q, symBA.getD k ByteArray.empty = q := ⟨_, rfl⟩
                  have hql : Lex.syms.getD k [] = q.data.toList := by
                    rw [← hq]
                    rcases k with _|_|_|_|_|_|_|_|_|_|_|_|_|k <;> first | rfl | omega
                  rw [hql] at hdr
                  rw [hq] at hck
                  have cp := CP.out q
                  clear hq hql
                  by_cases hpre : q.data.toList.isPrefixOf (c :: tl) = true
                  · rw [if_pos hpre] at hdr
                    rw [hpre] at cp
                    have hqs : m = q.size := by rw [hdr, Lib.size_eq]
                    subst hqs
                    have CPQ := Lib.hid cp
                    clear cp hpre hdr hsf
                    gi_wp2_with fail
                    refine ⟨trivial, (fun h => by cases h), ?_⟩
                    refine (callsIn_wide.2 (CPQ.out _)).mono ?_
                    rintro e w3 ⟨rfl, rfl⟩
                    gi_wp2_with fail
                    refine ⟨(fun h => by cases h), ?_⟩
                    refine hR.mono ?_
                    rintro e W3 (⟨rfl, hJ3, hkp⟩ | ⟨rfl, hJx3⟩)
                    · have hm0 : 1 ≤ q.size := by
                        have := hgood _ _ hJ3 ⟨2, (c :: tl).take q.size, p⟩ (by simp)
                        rcases Nat.eq_zero_or_pos q.size with h0 | h0
                        · rw [h0] at this
                          exact absurd rfl this
                        · exact h0
                      have hz : p + q.size ≤ s.size := by omega
                      have hc3 := hkp.1
                      have hn3 := hkp.2
                      clear hk0 hk1 hk2 hk3 hf0 hf1 hf2 hf3 hy hR hblk
                      gi_wp2_with fail
                      go_roundw
                      case rel =>
                        refine ⟨_, p + q.size, by go_num, hz, by simp; omega, ?_, hn3, hc3, hJ3⟩
                        have h3 := HF.out
                        rw [if_neg (by omega)] at h3
                        exact h3
                      case measure => simp [intOf]; omega
                    · clear hk0 hk1 hk2 hk3 hf0 hf1 hf2 hf3 hy hR hblk
                      gi_wp2_with fail
                      refine bodyPost_ret (results_none rfl _ _ _) rfl ?_
                      exact ⟨⟨_, rfl⟩, .inr ⟨_, ⟨_, HF.out.symm⟩, by simp, hJx3⟩⟩
                  · have hpre' : q.data.toList.isPrefixOf (c :: tl) = false := Bool.eq_false_iff.2 hpre
                    rw [if_neg hpre] at hdr
                    rw [hpre'] at cp
                    have CPQ := Lib.hid cp
                    have HDR := Lib.hid hdr.symm
                    clear cp hpre hpre' hdr hsf hy hR
                    gi_wp2_with fail
                    refine ⟨trivial, (fun h => by cases h), ?_⟩
                    refine (callsIn_wide.2 (CPQ.out _)).mono ?_
                    rintro e w3 ⟨rfl, rfl⟩
                    gi_wp2_with fail
                    go_roundw
                    case rel => (first | exact ⟨k + 1, by go_num, rfl, by omega, HDR, trivial⟩ | exact ⟨k + 1, by go_num, rfl, by omega, HDR, rfl⟩)
                    case measure => simp [intOf]; omega
                · obtain rfl : k = 13 := by omega
                  have hm0 : m = 0 := hsf.out.symm.trans rfl
                  subst hm0
                  clear hsf
                  have e0 : (s.extract p s.size).extract 0 0 = ByteArray.empty := by simp
                  rw [e0] at hy hR
                  clear e0
                  gi_wp2_with fail
                  refine ⟨(fun h => by cases h), ?_⟩
                  refine hR.mono ?_
                  rintro e W3 (⟨rfl, hJ3, hkp⟩ | ⟨rfl, hJx3⟩)
                  · exact absurd rfl (hgood _ _ hJ3 ⟨2, (c :: tl).take 0, p⟩ (by simp))
                  · clear hk0 hk1 hk2 hk3 hf0 hf1 hf2 hf3 hy hR hblk
                    gi_wp2_with fail
                    refine bodyPost_ret (results_none rfl _ _ _) rfl ?_
                    exact ⟨⟨_, rfl⟩, .inr ⟨_, ⟨_, HF.out.symm⟩, by simp, hJx3⟩⟩
    · obtain rfl : p = s.size := by omega
      gi_wp2_with fail
      go_end0
      refine ⟨⟨_, rfl⟩, .inl ?_⟩
      have h1 : s.data.toList.drop s.size = [] := by rw [Lib.size_eq]; exact List.drop_length
      have h2 := HIT.out
      rw [h1, Lex.items_end, List.append_nil] at h2
      rw [h2]
      exact hj
end Go.Proofs.YtmahdomlmidfdaaDoor
