import Derived.Lib.ItoaNum
import Derived.Lib.Atoi
import Derived.Test.YtlceokefdihdkaaGreatDoorShelf
import Derived.Test.YtlceokefdihdkaaGreatDoorXx0
import Derived.Test.YtlceokefdihdkaaGreatDoorYx1
import Derived.Test.YtlceokefdihdkaaGreatDoorExd
import Derived.Test.YtlceokefdihdkaaGreatDoorGok
import Derived.Lib.AppendIntMem
import Derived.WalkMore
import Derived.Outline
namespace Go.Proofs.YtlceokefdihdkaaGreatDoor
open Go.Lib
def bv (B : Int) : List Int → Int
 | [] => 0
 | x :: l => x + B * bv B l
def wf (B : Int) (l : List Int) : Prop := ∀ x, x ∈ l → 0 ≤ x ∧ x < B
def nrm (l : List Int) : Prop := ∀ x, l.getLast? = some x → x ≠ 0
theorem wf_nil (B : Int) : wf B [] := fun x h => by cases h
theorem wf_cons {B x : Int} {l : List Int} : wf B (x :: l) ↔ (0 ≤ x ∧ x < B) ∧ wf B l := by
 unfold wf; simp
theorem wf_append {B : Int} {l m : List Int} : wf B (l ++ m) ↔ wf B l ∧ wf B m := by
 unfold wf
 simp only [List.mem_append]
 exact ⟨fun h => ⟨fun x hx => h x (.inl hx), fun x hx => h x (.inr hx)⟩, fun h x hx => hx.elim (h.1 x) (h.2 x)⟩
theorem wf_one {B x : Int} (h0 : 0 ≤ x) (h1 : x < B) : wf B [x] := wf_cons.2 ⟨⟨h0, h1⟩, wf_nil B⟩
theorem wf_take {B : Int} {l : List Int} (h : wf B l) (n : Nat) : wf B (l.take n) := fun x hx => h x (List.mem_of_mem_take hx)
theorem wf_drop {B : Int} {l : List Int} (h : wf B l) (n : Nat) : wf B (l.drop n) := fun x hx => h x (List.mem_of_mem_drop hx)
theorem wf_rep {B : Int} (hB : 0 < B) (n : Nat) : wf B (List.replicate n 0) := fun x hx => by
 rw [List.mem_replicate] at hx; omega
theorem bv_nonneg {B : Int} (hB : 0 ≤ B) : ∀ {l : List Int}, wf B l → 0 ≤ bv B l
 | [], _ => Int.le_refl 0
 | x :: l, h => by
  have h2 := wf_cons.1 h
  have ih := bv_nonneg hB h2.2
  have := Int.mul_nonneg hB ih
  unfold bv; omega
theorem bv_append (B : Int) : ∀ (l m : List Int), bv B (l ++ m) = bv B l + B ^ l.length * bv B m
 | [], m => by simp [bv]
 | x :: l, m => by
  rw [List.cons_append, bv, bv, bv_append B l m, List.length_cons, Int.pow_succ', Int.mul_add, Int.mul_assoc, Int.add_assoc]
theorem bv_snoc (B : Int) (l : List Int) (x : Int) : bv B (l ++ [x]) = bv B l + B ^ l.length * x := by
 rw [bv_append]; simp [bv]
theorem bv_rep (B : Int) : ∀ n, bv B (List.replicate n 0) = 0
 | 0 => rfl
 | n + 1 => by rw [List.replicate_succ, bv, bv_rep B n]; simp
theorem pow_pos' {B : Int} (hB : 0 < B) (n : Nat) : 0 < B ^ n := Int.pow_pos hB
theorem bv_lt {B : Int} (hB : 0 < B) : ∀ {l : List Int}, wf B l → bv B l < B ^ l.length
 | [], _ => by simp [bv]
 | x :: l, h => by
  have h2 := wf_cons.1 h
  have ih := bv_lt hB h2.2
  rw [bv, List.length_cons, Int.pow_succ']
  have h3 : bv B l + 1 ≤ B ^ l.length := ih
  have h4 := Int.mul_le_mul_of_nonneg_left h3 (Int.le_of_lt hB)
  rw [Int.mul_add, Int.mul_one] at h4
  omega
theorem nrm_nil : nrm [] := fun x h => by cases h
theorem nrm_snoc {l : List Int} {x : Int} : nrm (l ++ [x]) ↔ x ≠ 0 := by
 unfold nrm
 simp
theorem snoc_of_ne {α : Type} (l : List α) (h : l ≠ []) : ∃ m x, l = m ++ [x] := ⟨l.dropLast, l.getLast h, (List.dropLast_concat_getLast h).symm⟩
theorem bv_ge {B : Int} (hB : 0 < B) {l : List Int} (h : wf B l) (hn : nrm l) (hne : l ≠ []) : B ^ (l.length - 1) ≤ bv B l := by
 obtain ⟨m, x, rfl⟩ := snoc_of_ne l hne
 rw [bv_snoc, List.length_append, List.length_singleton, Nat.add_sub_cancel]
 have hw := wf_append.1 h
 have h0 := bv_nonneg (Int.le_of_lt hB) hw.1
 have hx := nrm_snoc.1 hn
 have hx2 := (wf_cons.1 hw.2).1
 have hp := Int.le_of_lt (pow_pos' hB m.length)
 have h4 : B ^ m.length * 1 ≤ B ^ m.length * x := Int.mul_le_mul_of_nonneg_left (by omega) hp
 omega
theorem bv_pos {B : Int} (hB : 0 < B) {l : List Int} (h : wf B l) (hn : nrm l) (hne : l ≠ []) : 0 < bv B l := by
 have := bv_ge hB h hn hne
 have := pow_pos' hB (l.length - 1)
 omega
theorem bv_zero {B : Int} (hB : 0 < B) {l : List Int} (h : wf B l) (hn : nrm l) : bv B l = 0 ↔ l = [] := by
 constructor
 ·intro h0
  by_cases hne : l = []
  ·exact hne
  ·have := bv_pos hB h hn hne; omega
 ·rintro rfl; rfl
theorem len_of_lt {B : Int} (hB : 1 < B) {l : List Int} (h : wf B l) (hn : nrm l) {n : Nat} (hl : bv B l < B ^ n) : l.length ≤ n := by
 by_cases hne : l = []
 ·subst hne; simp
 ·have h1 := bv_ge (by omega) h hn hne
  rcases Nat.lt_or_ge n l.length with h2 | h2
  ·exfalso
   have h3 : B ^ n ≤ B ^ (l.length - 1) := by
    obtain ⟨d, hd⟩ : ∃ d, l.length - 1 = n + d := ⟨l.length - 1 - n, by omega⟩
    rw [hd, Int.pow_add]
    have h4 := Int.le_of_lt (pow_pos' (show 0 < B by omega) n)
    have h5 : 1 ≤ B ^ d := pow_pos' (by omega) d
    have := Int.mul_le_mul_of_nonneg_left h5 h4
    omega
   omega
  ·exact h2
theorem bv_snoc_lt {B : Int} (hB : 0 < B) {l m : List Int} {x y : Int} (hl : wf B l) (hm : wf B m) (he : l.length = m.length) (hxy : x < y) : bv B (l ++ [x]) < bv B (m ++ [y]) := by
 rw [bv_snoc, bv_snoc, he]
 have h1 := bv_lt hB hl
 have h2 := bv_nonneg (Int.le_of_lt hB) hm
 have h3 := Int.le_of_lt (pow_pos' hB m.length)
 have h4 : B ^ m.length * (x + 1) ≤ B ^ m.length * y := Int.mul_le_mul_of_nonneg_left (by omega) h3
 rw [Int.mul_add, Int.mul_one] at h4
 rw [he] at h1
 omega
theorem bv_len_lt {B : Int} (hB : 1 < B) {l m : List Int} (hl : wf B l) (hm : wf B m) (hn : nrm m) (h : l.length < m.length) : bv B l < bv B m := by
 have h1 := bv_lt (by omega) hl
 have h2 := bv_ge (by omega) hm hn (by rintro rfl; simp at h)
 have h3 : B ^ l.length ≤ B ^ (m.length - 1) := by
  obtain ⟨d, hd⟩ : ∃ d, m.length - 1 = l.length + d := ⟨m.length - 1 - l.length, by omega⟩
  rw [hd, Int.pow_add]
  have h4 := Int.le_of_lt (pow_pos' (show 0 < B by omega) l.length)
  have h5 : 1 ≤ B ^ d := pow_pos' (by omega) d
  have := Int.mul_le_mul_of_nonneg_left h5 h4
  omega
 omega
theorem bv_inj_len {B : Int} (hB : 0 < B) : ∀ {l m : List Int}, wf B l → wf B m → l.length = m.length → bv B l = bv B m → l = m
 | [], [], _, _, _, _ => rfl
 | [], _ :: _, _, _, h, _ => by simp at h
 | _ :: _, [], _, _, h, _ => by simp at h
 | x :: l, y :: m, hl, hm, h, e => by
  have h1 := wf_cons.1 hl
  have h2 := wf_cons.1 hm
  unfold bv at e
  have hx : x = y := by
   have e1 : (x + B * bv B l) % B = (y + B * bv B m) % B := by rw [e]
   rw [Int.add_mul_emod_self_left, Int.add_mul_emod_self_left, Int.emod_eq_of_lt h1.1.1 h1.1.2, Int.emod_eq_of_lt h2.1.1 h2.1.2] at e1
   exact e1
  subst hx
  have e2 : B * bv B l = B * bv B m := by omega
  rw [bv_inj_len hB h1.2 h2.2 (by simpa using h) (Int.eq_of_mul_eq_mul_left (by omega) e2)]
theorem bv_inj {B : Int} (hB : 1 < B) {l m : List Int} (hl : wf B l) (hm : wf B m) (nl : nrm l) (nm : nrm m) (e : bv B l = bv B m) : l = m := by
 rcases Nat.lt_trichotomy l.length m.length with h | h | h
 ·have := bv_len_lt hB hl hm nm h; omega
 ·exact bv_inj_len (by omega) hl hm h e
 ·have := bv_len_lt hB hm hl nl h; omega
theorem dec_small {n : Nat} (h : n < 10) : decDigits n = [UInt8.ofNat (48 + n)] := by rw [decDigits, dif_pos h]
theorem dec_big {n : Nat} (h : 10 ≤ n) : decDigits n = decDigits (n / 10) ++ [UInt8.ofNat (48 + n % 10)] := by rw [decDigits, dif_neg (by omega)]
def pad : Nat → Nat → List UInt8
 | 0, _ => []
 | k + 1, x => pad k (x / 10) ++ [UInt8.ofNat (48 + x % 10)]
theorem pad_len (k x : Nat) : (pad k x).length = k := by
 induction k generalizing x with
 | zero => rfl
 | succ k ih => simp [pad, ih]
theorem dec_join (k q x : Nat) (hq : 0 < q) (hx : x < 10 ^ k) : decDigits (q * 10 ^ k + x) = decDigits q ++ pad k x := by
 induction k generalizing x with
 | zero =>
  have : x = 0 := by simpa using hx
  subst this
  simp [pad]
 | succ k ih =>
  rw [Nat.pow_succ] at hx ⊢
  have h1 : 1 ≤ q * 10 ^ k := Nat.mul_pos hq (Nat.pow_pos (by decide))
  have e : q * (10 ^ k * 10) = 10 * (q * 10 ^ k) := by rw [← Nat.mul_assoc, Nat.mul_comm]
  rw [e, dec_big (by omega)]
  have e1 : (10 * (q * 10 ^ k) + x) / 10 = q * 10 ^ k + x / 10 := by omega
  have e2 : (10 * (q * 10 ^ k) + x) % 10 = x % 10 := by omega
  rw [e1, e2, ih (x / 10) (by omega), pad, List.append_assoc]
theorem pad_zero (k : Nat) : pad k 0 = List.replicate k 48 := by
 induction k with
 | zero => rfl
 | succ k ih => rw [pad, show 0 / 10 = 0 from rfl, ih, List.replicate_succ']; rfl
theorem pad_dec (k x : Nat) (hk : 0 < k) (hx : x < 10 ^ k) : pad k x = List.replicate (k - (decDigits x).length) 48 ++ decDigits x := by
 induction k generalizing x with
 | zero => omega
 | succ k ih =>
  by_cases h : x < 10
  ·rw [pad, dec_small h, Nat.div_eq_of_lt h, Nat.mod_eq_of_lt h, pad_zero]
   simp
  ·rw [pad, dec_big (by omega)]
   have hk0 : k ≠ 0 := by rintro rfl; simp at hx; omega
   rw [Nat.pow_succ] at hx
   rw [ih (x / 10) (by omega) (by omega), List.append_assoc]
   congr 2
   simp
theorem dec_len_le (k x : Nat) (hk : 0 < k) (hx : x < 10 ^ k) : (decDigits x).length ≤ k := by
 induction k generalizing x with
 | zero => omega
 | succ k ih =>
  by_cases h : x < 10
  ·rw [dec_small h]; simp
  ·rw [dec_big (by omega)]
   have hk0 : k ≠ 0 := by rintro rfl; simp at hx; omega
   rw [Nat.pow_succ] at hx
   have := ih (x / 10) (by omega) (by omega)
   simp; omega
theorem dec_ne (n : Nat) : decDigits n ≠ [] := by
 by_cases h : n < 10
 ·rw [dec_small h]; simp
 ·rw [dec_big (by omega)]; simp
def dgv (c : UInt8) : Nat := c.toNat - 48
def dval (acc : Nat) (l : List UInt8) : Nat := l.foldl (fun a c => a * 10 + dgv c) acc
theorem dval_nil (acc : Nat) : dval acc [] = acc := rfl
def isDig (c : UInt8) : Prop := 48 ≤ c.toNat ∧ c.toNat ≤ 57
theorem dval_append (acc : Nat) (l m : List UInt8) : dval acc (l ++ m) = dval (dval acc l) m := by unfold dval; rw [List.foldl_append]
theorem dval_cons (acc : Nat) (l : List UInt8) (c : UInt8) : dval acc (c :: l) = dval (acc * 10 + dgv c) l := by unfold dval; rw [List.foldl_cons]
theorem dval_snoc (acc : Nat) (l : List UInt8) (c : UInt8) : dval acc (l ++ [c]) = dval acc l * 10 + dgv c := by rw [dval_append, dval_cons, dval_nil]
theorem dval_pow (acc : Nat) (l : List UInt8) : dval acc l = acc * 10 ^ l.length + dval 0 l := by
 induction l generalizing acc with
 | nil => simp [dval_nil]
 | cons c l ih =>
  rw [dval_cons, ih, dval_cons, ih (0 * 10 + dgv c), List.length_cons, Nat.pow_succ, Nat.add_mul, Nat.zero_mul, Nat.zero_add]
  rw [show acc * (10 ^ l.length * 10) = acc * 10 * 10 ^ l.length by rw [Nat.mul_comm (10 ^ l.length), Nat.mul_assoc]]
  omega
theorem dval_lt {l : List UInt8} (h : ∀ c, c ∈ l → isDig c) : dval 0 l < 10 ^ l.length := by
 induction l with
 | nil => decide
 | cons c l ih =>
  have hc := h c (List.mem_cons_self ..)
  have ih := ih (fun d hd => h d (List.mem_cons_of_mem _ hd))
  rw [dval_cons, dval_pow, List.length_cons, Nat.pow_succ]
  unfold isDig at hc
  have : (0 * 10 + dgv c) * 10 ^ l.length ≤ 9 * 10 ^ l.length := Nat.mul_le_mul_right _ (by unfold dgv; omega)
  omega
theorem dig_of {d : Nat} (h : d < 10) : (UInt8.ofNat (48 + d)).toNat = 48 + d := by
 rw [UInt8.toNat_ofNat']
 exact Nat.mod_eq_of_lt (by omega)
theorem dec_dig (n : Nat) : ∀ c, c ∈ decDigits n → isDig c := by
 induction n using Nat.strongRecOn with
 | _ n ih =>
  intro c hc
  by_cases h : n < 10
  ·rw [dec_small h, List.mem_singleton] at hc
   subst hc
   unfold isDig
   rw [dig_of h]; omega
  ·rw [dec_big (by omega), List.mem_append, List.mem_singleton] at hc
   rcases hc with hc | hc
   ·exact ih (n / 10) (by omega) c hc
   ·subst hc
    unfold isDig
    rw [dig_of (by omega)]; omega
theorem dval_dec (n : Nat) : dval 0 (decDigits n) = n := by
 induction n using Nat.strongRecOn with
 | _ n ih =>
  by_cases h : n < 10
  ·rw [dec_small h, dval_cons, dval_nil]; unfold dgv; rw [dig_of h]; omega
  ·rw [dec_big (by omega), dval_snoc, ih (n / 10) (by omega)]; unfold dgv; rw [dig_of (by omega)]; omega
theorem dec_head (n : Nat) (h : 0 < n) : ∃ c l, decDigits n = c :: l ∧ c.toNat ≠ 48 := by
 induction n using Nat.strongRecOn with
 | _ n ih =>
  by_cases h1 : n < 10
  ·rw [dec_small h1]; exact ⟨_, _, rfl, by rw [dig_of h1]; omega⟩
  ·obtain ⟨c, l, e, hc⟩ := ih (n / 10) (by omega) (by omega)
   rw [dec_big (by omega), e]
   exact ⟨c, _, rfl, hc⟩
theorem u8_ext {a b : UInt8} (h : a.toNat = b.toNat) : a = b := UInt8.toNat_inj.1 h
theorem dec_dval : ∀ (n : Nat) (l : List UInt8), l.length = n → (∀ c, c ∈ l → isDig c) → l ≠ [] → (∀ c r, l = c :: r → c.toNat = 48 → r = []) → decDigits (dval 0 l) = l := by
 intro n
 induction n with
 | zero => intro l h _ h0; exact absurd (List.length_eq_zero_iff.1 h) h0
 | succ n ih =>
  intro l hl hd hne hz
  obtain ⟨m, x, rfl⟩ := snoc_of_ne l hne
  rw [dval_snoc]
  unfold dgv
  have hx := hd x (by simp)
  unfold isDig at hx
  cases hm : m with
  | nil =>
   show decDigits (0 * 10 + dgv x) = [x]
   unfold dgv
   rw [dec_small (by omega)]
   congr 1
   apply u8_ext
   rw [dig_of (by omega)]; omega
  | cons c r =>
   have ihm := ih m (by simpa using hl) (fun d h => hd d (List.mem_append_left _ h)) (by rw [hm]; simp)
    (fun c' r' e h => by
     have := hz c' (r' ++ [x]) (by rw [e]; rfl) h
     simp at this)
   have hpos : 0 < dval 0 m := by
    rcases Nat.eq_zero_or_pos (dval 0 m) with h0 | h0
    ·exfalso
     rw [h0] at ihm
     rw [dec_small (by decide)] at ihm
     have := hz 48 ([x]) (by rw [← ihm]; rfl) (by decide)
     simp at this
    ·exact h0
   rw [← hm, dec_big (by omega)]
   have e1 : (dval 0 m * 10 + (x.toNat - 48)) / 10 = dval 0 m := by omega
   have e2 : (dval 0 m * 10 + (x.toNat - 48)) % 10 = x.toNat - 48 := by omega
   rw [e1, e2, ihm]
   congr 2
   apply u8_ext
   rw [dig_of (by omega)]; omega
end Go.Proofs.YtlceokefdihdkaaGreatDoor
namespace Go.Proofs
open Go.Shelf Go.RowKit
def Tryz.rb : Go.Shelf.Ren := ⟨fun | 167 => 58 | 105 => 57 | 212 => 80 | 99 => 81 | 165 => 82 | 166 => 59 | 170 => 83 | 169 => 60 | 263 => 105 | 264 => 106 | 206 => 93 | 240 => 84 | 241 => 107 | 276 => 108 | 277 => 122 | n => n, fun | 9 => 9 | 3 => 3 | 4 => 4 | 20 => 20 | 0 => 0 | 46 => 91 | 109 => 109 | 5 => 5 | 72 => 88 | 76 => 77 | 51 => 81 | 146 => 133 | 53 => 90 | 148 => 135 | 70 => 86 | 37 => 29 | 75 => 76 | 127 => 114 | 164 => 137 | 80 => 40 | n => n, fun | n => n⟩
theorem Tryz.rb_n166 : Go.Proofs.Lays.n166 Tryz.prog Tryz.rb := {
 mixed := by kernel_rfl
 f166 := Tryz.func59.trans (congrArg some (by kernel_rfl))
 f240 := Tryz.func84.trans (congrArg some (by kernel_rfl))
 f276 := Tryz.func108.trans (congrArg some (by kernel_rfl))
 t0 := Tryz.underlying0
 a0 := Tryz.isAgg0
 z0 := Tryz.sizeOf0
 v0 := Tryz.zeroValue0
 t3 := Tryz.underlying3
 a3 := Tryz.isAgg3
 z3 := Tryz.sizeOf3
 v3 := Tryz.zeroValue3
 t4 := Tryz.underlying4
 a4 := Tryz.isAgg4
 z4 := Tryz.sizeOf4
 v4 := Tryz.zeroValue4
 t9 := Tryz.underlying9
 a9 := Tryz.isAgg9
 z9 := Tryz.sizeOf9
 v9 := Tryz.zeroValue9
 t20 := Tryz.underlying20
 a20 := Tryz.isAgg20
 z20 := Tryz.sizeOf20
 v20 := Tryz.zeroValue20
 t37 := Tryz.underlying29
 a37 := Tryz.isAgg29
 z37 := Tryz.sizeOf29
 v37 := Tryz.zeroValue29
 t70 := Tryz.underlying86
 a70 := Tryz.isAgg86
 z70 := Tryz.sizeOf86
 v70 := Tryz.zeroValue86
 t72 := Tryz.underlying88
 a72 := Tryz.isAgg88
 z72 := Tryz.sizeOf88
 v72 := Tryz.zeroValue88
 t75 := Tryz.underlying76
 a75 := Tryz.isAgg76
 z75 := Tryz.sizeOf76
 v75 := Tryz.zeroValue76
 t164 := Tryz.underlying137
 a164 := Tryz.isAgg137
 z164 := Tryz.sizeOf137
 v164 := Tryz.zeroValue137 }
theorem Tryz.rb_n167 : Go.Proofs.Lays.n167 Tryz.prog Tryz.rb := {
 mixed := by kernel_rfl
 f167 := Tryz.func58.trans (congrArg some (by kernel_rfl))
 f240 := Tryz.func84.trans (congrArg some (by kernel_rfl))
 f276 := Tryz.func108.trans (congrArg some (by kernel_rfl))
 t0 := Tryz.underlying0
 a0 := Tryz.isAgg0
 z0 := Tryz.sizeOf0
 v0 := Tryz.zeroValue0
 t4 := Tryz.underlying4
 a4 := Tryz.isAgg4
 z4 := Tryz.sizeOf4
 v4 := Tryz.zeroValue4
 t5 := Tryz.underlying5
 a5 := Tryz.isAgg5
 z5 := Tryz.sizeOf5
 v5 := Tryz.zeroValue5
 t9 := Tryz.underlying9
 a9 := Tryz.isAgg9
 z9 := Tryz.sizeOf9
 v9 := Tryz.zeroValue9
 t20 := Tryz.underlying20
 a20 := Tryz.isAgg20
 z20 := Tryz.sizeOf20
 v20 := Tryz.zeroValue20
 t37 := Tryz.underlying29
 a37 := Tryz.isAgg29
 z37 := Tryz.sizeOf29
 v37 := Tryz.zeroValue29
 t70 := Tryz.underlying86
 a70 := Tryz.isAgg86
 z70 := Tryz.sizeOf86
 v70 := Tryz.zeroValue86
 t72 := Tryz.underlying88
 a72 := Tryz.isAgg88
 z72 := Tryz.sizeOf88
 v72 := Tryz.zeroValue88
 t75 := Tryz.underlying76
 a75 := Tryz.isAgg76
 z75 := Tryz.sizeOf76
 v75 := Tryz.zeroValue76
 t164 := Tryz.underlying137
 a164 := Tryz.isAgg137
 z164 := Tryz.sizeOf137
 v164 := Tryz.zeroValue137 }
theorem Tryz.rb_extra : Builder.Extra Tryz.prog Tryz.rb := {
 sizeBuilder := by kernel_rfl
 liesBuilder := by kernel_rfl
 t5 := Tryz.underlying5
 a5 := Tryz.isAgg5
 z5 := Tryz.sizeOf5
 v5 := Tryz.zeroValue5
 infoByte := by kernel_rfl
 cellsByte := by kernel_rfl
 sizeByte := by kernel_rfl
 neB5 := by decide }
theorem Tryz.B_WriteByte (B b : Nat) (bs : List Value) (c : Int) (w : World) (h : Lib.IsBuilder 88 5 B b bs w) (hlen : bs.length + 1 ≤ 140737488355328) (hBw : B ≤ w.heap.size) :
  Calls Tryz.prog 58 #[.pointer (some ⟨b, 0, none⟩), .int .u8 c] w fun e w' => e = .returned .nilIface ∧ (Lib.BuilderAt 88 5 B b (.pointer (some ⟨b, 0, none⟩)) (bs ++ [.int .u8 c]) w' ∧ Below B w w') :=
 Any.Builder_WriteByte Tryz.rb_n167 Tryz.rb_extra B b bs c w h hlen hBw
theorem Tryz.B_WriteString (B b : Nat) (bs : List Value) (s : ByteArray) (w : World) (h : Lib.IsBuilder 88 5 B b bs w) (hlen : bs.length + s.size ≤ 140737488355328) (hBw : B ≤ w.heap.size) :
  Calls Tryz.prog 59 #[.pointer (some ⟨b, 0, none⟩), .string s] w fun e w' => e = .returned (.tuple #[.int .i64 s.size, .nilIface]) ∧ (Lib.BuilderAt 88 5 B b (.pointer (some ⟨b, 0, none⟩)) (bs ++ Lib.strCells s) w' ∧ Below B w w') :=
 Any.Builder_WriteString Tryz.rb_n166 Tryz.rb_extra B b bs s w h hlen hBw
end Go.Proofs
namespace Go.Proofs.YtlceokefdihdkaaGreatDoor.X
open Go.RowKit Go.Proofs.YtlceokefdihdkaaGreatDoorW.PrintWords Go.Proofs.YtlceokefdihdkaaGreatDoorW.PrintLast Go.Proofs.YtlceokefdihdkaaGreatDoorW.PrintMore
set_option linter.unusedSimpArgs false
set_option linter.unusedVariables false
def partS (more : Bool) (r : Int) : ByteArray :=
 if more then (⟨(Lib.repeatL [48] (9 - (Lib.itoa r).length)).toArray⟩ : ByteArray) ++ ⟨(Lib.itoa r).toArray⟩ else ⟨(Lib.itoa r).toArray⟩
def strL : Nat → List Int → List ByteArray → Option (List ByteArray)
 | 0, _, _ => none
 | k + 1, m, acc => if m.length = 0 then some acc else
  (Y.wide_short.f K0 m 1000000000).bind fun qr => (Y.wide_normal.f K0 qr.1).bind fun m' =>
   if 0 ≤ qr.2 ∧ qr.2 < 1000000000 ∧ acc.length < 100000 then strL k m' (acc ++ [partS (decide (0 < m'.length)) qr.2]) else none
def catL (l : List ByteArray) : List UInt8 := l.reverse.flatMap (fun s => s.data.toList)
def wide_Int_String.f (a0_0 : Bool) (l0_1 : List Int) : Option ByteArray :=
 if l0_1.length = 0 then some ⟨#[48]⟩ else (strL K0 l0_1 []).bind fun L => if (catL L).length ≤ 10000000 then some ⟨((if a0_0 then [45] else []) ++ catL L).toArray⟩ else none
def wrS (l : List ByteArray) (j : Nat) : List UInt8 := (l.drop j).reverse.flatMap (fun s => s.data.toList)
theorem wrS_all (l : List ByteArray) : wrS l 0 = catL l := rfl
theorem wrS_end (l : List ByteArray) : wrS l l.length = [] := by simp [wrS]
theorem wrS_step (l : List ByteArray) (j : Nat) (h : j < l.length) : wrS l j = wrS l (j + 1) ++ (rdOf ByteArray.empty l (j : Int)).data.toList := by
 unfold wrS rdOf
 rw [List.drop_eq_getElem_cons h, List.reverse_cons, List.flatMap_append, Int.toNat_natCast]
 simp [List.getD_eq_getElem?_getD, h]
theorem wrS_le (l : List ByteArray) (j : Nat) : (wrS l j).length ≤ (catL l).length := by
 rw [← wrS_all]
 induction j with
 | zero => exact Nat.le_refl _
 | succ j ih =>
  rcases Nat.lt_or_ge j l.length with h | h
  ·rw [wrS_step l j h, List.length_append] at ih
   omega
  ·have : wrS l (j + 1) = [] := by unfold wrS; rw [List.drop_eq_nil_of_le (by omega)]; rfl
   rw [this]; simp
theorem wr_step {B b : Nat} {l : List ByteArray} {pre : List UInt8} {i : Int} {w : World} (h0 : 0 ≤ i) (h1 : i < l.length)
  (h : Lib.BuilderAt 88 5 B b (.pointer (some ⟨b, 0, none⟩)) (Lib.byteCells (pre ++ wrS l (i + 1).toNat) ++ Lib.strCells (rdOf ByteArray.empty l i)) w) :
  Lib.IsBuilder 88 5 B b (Lib.byteCells (pre ++ wrS l (i - 1 + 1).toNat)) w := by
 obtain ⟨n, rfl⟩ := Int.eq_ofNat_of_zero_le h0
 have e1 : ((n : Int) + 1).toNat = n + 1 := by omega
 have e2 : ((n : Int) - 1 + 1).toNat = n := by omega
 rw [e1, Lib.strCells_eq, ← Lib.byteCells_append, List.append_assoc, ← wrS_step l n (by omega)] at h
 rw [e2]
 exact .inr h
theorem wr_len {l : List ByteArray} {pre : List UInt8} {i : Int} (hp : pre.length ≤ 1) (hc : (catL l).length ≤ 10000000) (h0 : 0 ≤ i) (h1 : i < l.length) :
  (Lib.byteCells (pre ++ wrS l (i + 1).toNat)).length + (rdOf ByteArray.empty l i).size ≤ 140737488355328 := by
 obtain ⟨n, rfl⟩ := Int.eq_ofNat_of_zero_le h0
 have e1 : ((n : Int) + 1).toNat = n + 1 := by omega
 have h2 := wrS_le l n
 rw [wrS_step l n (by omega), List.length_append] at h2
 rw [e1, Lib.byteCells_length, List.length_append]
 have h3 : (rdOf ByteArray.empty l (n : Int)).data.toList.length = (rdOf ByteArray.empty l (n : Int)).size := Array.length_toList
 omega
theorem itoa_len {r : Int} (h0 : 0 ≤ r) (h1 : r < 1000000000) : (Lib.itoa r).length ≤ 9 := by
 unfold Lib.itoa
 rw [if_neg (by omega)]
 exact dec_len_le 9 _ (by decide) (by omega)
theorem fresh_builder (W : World) : Lib.BuilderAt 88 5 W.heap.size W.heap.size (.pointer none) [] (W.alloc (.cells #[.pointer none, .slice none 0 0] 88)) :=
 ⟨Nat.le_refl _, .slice none 0 0, blk_new _ _, ⟨rfl, .inl ⟨rfl, rfl⟩⟩, by simp [Value.ownBlock]⟩
set_option maxRecDepth 100000 in
set_option maxHeartbeats 1000000 in
theorem str_walk (a0_0 : Bool) (A0_1 : Option Addr) (c0_1 : Nat) (l0_1 : List Int) (L : List ByteArray) (w : World) (hr0_1 : Kd.C (Kd.int .u32) w A0_1 l0_1.length l0_1) (hc0_1 : l0_1.length ≤ c0_1) (h0 : l0_1.length ≠ 0) (h : strL K0 l0_1 [] = some L) (hcat : (catL L).length ≤ 10000000) (hG : GOK w) :
  Calls Tryz.prog 19 #[.agg #[.bool a0_0, .slice A0_1 l0_1.length c0_1]] w fun e w' => e = .returned (.string ⟨((if a0_0 then [45] else []) ++ catL L).toArray⟩) ∧ Below w.heap.size w w' := by
 have HR := Aside0.mk hr0_1
 have HC := Aside0.mk hc0_1
 have H' := Aside0.mk h
 have hlI : ((l0_1.length : Int) == 0) = false := by rw [beq_eq_false_iff_ne]; omega
 have HG := Aside0.mk hG
 clear hr0_1 hc0_1 h hG h0
 go_enter Tryz.func19, Tryz.ntmps19
 go_wp2_with fail
 have hb1 : Below w.heap.size w (w.alloc (.cells #[.bool a0_0, .slice A0_1 l0_1.length c0_1] 33)) := (Below.refl _ _).alloc (Nat.le_refl _) _
 have hx1 : (w.alloc (.cells #[.bool a0_0, .slice A0_1 l0_1.length c0_1] 33)).heap[w.heap.size]? = some (.cells #[.bool a0_0, .slice A0_1 l0_1.length c0_1] 33 (0, 0)) := blk_new _ _
 have HB := Aside0.mk hb1
 have HX := Aside0.mk hx1
 clear hb1 hx1
 generalize w.alloc (.cells #[.bool a0_0, .slice A0_1 l0_1.length c0_1] 33) = w1 at HB HX ⊢
 go_loopg [3, 4] K0 (fun kq v3 v4 w' => ∃ (acc : List ByteArray) (m : List Int), Aside0 (strL kq m acc = some L) ∧ Aside0 (Kd.R Kd.string 9 w' w.heap.size (fun _ => True) v3 acc) ∧ Aside0 (Kd.V (Kd.int .u32) 81 w' w.heap.size (fun k => True ∧ some k ≠ v3.ownBlock) v4 m) ∧ Aside0 (w'.heap[w.heap.size]? = some (.cells #[.bool a0_0, .slice A0_1 l0_1.length c0_1] 33 (0, 0))) ∧ Aside0 (Below w.heap.size w w'))
 case atStart => exact ⟨[], l0_1, H', ⟨Kd.R_nil _ _ _ _ _⟩, ⟨Kd.V_apart_nil (Kd.V_mk HC.out (Kd.F_mono (Kd.C_F (Kd.heap_int _) (Kd.C_below HR.out HB.out)) (fun _ _ => trivial)))⟩, HX, HB⟩
 case round =>
  clear H' HX HB
  obtain ⟨acc, m, HA, HO, HV, HX, HB⟩ := hrel
  cases gk with
  | zero => exact absurd HA.out (by simp [strL])
  | succ k1 =>
   obtain ⟨Am, cm, rfl⟩ := Kd.V_slice HV.out
   by_cases hm : m.length = 0
   ·have hmI : ¬ (0 : Int) < (m.length : Int) := by omega
    have hL : acc = L := by
     have h := HA.out
     unfold strL at h
     rw [if_pos hm] at h
     injection h
    subst hL
    have HM := Aside0.mk hm
    clear hm
    obtain ⟨Ap, cp, rfl⟩ := Kd.R_slice HO.out
    have HCP := Aside0.mk (Kd.R_reads' HO.out).2.2
    have hpl : (acc.length : Int) ≤ 9223372036854775807 := by have := HCP.out.2.1; omega
    have hcx : wr.cell? ⟨w.heap.size, 0, none⟩ = some (.bool a0_0) := (blk_cell HX.out 0).trans rfl
    have hcy := blk_frozen HX.out 0
    have hltg : w.heap.size < wr.heap.size := blk_lt HX.out
    have hneg : ¬ w.heap.size = wr.heap.size := by omega
    obtain ⟨wo, rfl⟩ : ∃ wo : World, wo = wr := ⟨_, rfl⟩
    cases a0_0 with
    | true =>
     go_wp2_with fail
     have hbl0 := fresh_builder wo
     have HBW : Aside0 (Below wo.heap.size wo (wo.alloc (.cells #[.pointer none, .slice none 0 0] 88))) := ⟨(Below.refl _ _).alloc (Nat.le_refl _) _⟩
     refine (Tryz.B_WriteByte wo.heap.size wo.heap.size [] 45 _ (.inl hbl0) (by simp) (by simp)).mono ?_
     rintro e w3 ⟨rfl, hbl, hbw⟩
     have HBL : Aside0 (Lib.IsBuilder 88 5 wo.heap.size wo.heap.size (Lib.byteCells [45]) w3) := ⟨.inr hbl⟩
     have HB3 : Aside0 (Below wo.heap.size wo w3) := ⟨HBW.out.trans hbw⟩
     clear hbl hbw hbl0 HBW
     go_wp2_with fail
     go_loopw [9] (fun v9 w' => ∃ i : Int, v9 = .int .i64 i ∧ -1 ≤ i ∧ i < acc.length ∧ Aside0 (Lib.IsBuilder 88 5 wo.heap.size wo.heap.size (Lib.byteCells ([45] ++ wrS acc (i + 1).toNat)) w') ∧ Aside0 (Below wo.heap.size wo w'))
      (fun v9 w' => (intOf v9 + 1).toNat)
     case atStart => exact ⟨(acc.length : Int) - 1, by rfl, by omega, by omega, ⟨by rw [show ((acc.length : Int) - 1 + 1).toNat = acc.length from by omega, wrS_end, List.append_nil]; exact HBL.out⟩, HB3⟩
     case round =>
      obtain ⟨i, rfl, hi0, hi1, HBL, HB3⟩ := hrel
      by_cases hi : 0 ≤ i
      ·obtain ⟨ads, es, hxs⟩ := Kd.at_string (Kd.C_below HCP.out HB3.out) i hi hi1
       cases es
       go_wp2_with fail
       refine (Tryz.B_WriteString wo.heap.size wo.heap.size _ _ _ HBL.out (wr_len (by simp) hcat hi hi1) HB3.out.size).mono ?_
       rintro e w5 ⟨rfl, hbl, hbw⟩
       have HBL5 := Aside0.mk (wr_step hi hi1 hbl)
       have HB5 : Aside0 (Below wo.heap.size wo w5) := ⟨HB3.out.trans (hbw.mono (Nat.le_refl _))⟩
       clear hbl hbw
       go_wp2_with fail
       go_roundw
       case rel => exact ⟨i - 1, by rfl, by omega, by omega, HBL5, HB5⟩
       case measure => simp [intOf]; omega
      ·have hi2 : i = -1 := by omega
       have HI2 := Aside0.mk hi2
       clear hi2
       have hi3 : i < 0 := by omega
       go_wp2_with fail
       refine (Tryz.Builder_String_any wo.heap.size wo.heap.size ([45] ++ catL acc) _ (by have h := HBL.out; rw [HI2.out] at h; exact h) HB3.out.size).mono ?_
       rintro e w6 ⟨rfl, hbw⟩
       go_wp2_with fail
       go_ret
       exact ⟨rfl, HB.out.trans ((HB3.out.trans hbw).mono HB.out.size)⟩
    | false =>
     have HBL : Aside0 (Lib.IsBuilder 88 5 wo.heap.size wo.heap.size (Lib.byteCells []) (wo.alloc (.cells #[.pointer none, .slice none 0 0] 88))) := ⟨.inl (fresh_builder wo)⟩
     have HB3 : Aside0 (Below wo.heap.size wo (wo.alloc (.cells #[.pointer none, .slice none 0 0] 88))) := ⟨(Below.refl _ _).alloc (Nat.le_refl _) _⟩
     go_wp2_with fail
     go_loopw [9] (fun v9 w' => ∃ i : Int, v9 = .int .i64 i ∧ -1 ≤ i ∧ i < acc.length ∧ Aside0 (Lib.IsBuilder 88 5 wo.heap.size wo.heap.size (Lib.byteCells ([] ++ wrS acc (i + 1).toNat)) w') ∧ Aside0 (Below wo.heap.size wo w'))
      (fun v9 w' => (intOf v9 + 1).toNat)
     case atStart => exact ⟨(acc.length : Int) - 1, by rfl, by omega, by omega, ⟨by rw [show ((acc.length : Int) - 1 + 1).toNat = acc.length from by omega, wrS_end, List.append_nil]; exact HBL.out⟩, HB3⟩
     case round =>
      obtain ⟨i, rfl, hi0, hi1, HBL, HB3⟩ := hrel
      by_cases hi : 0 ≤ i
      ·obtain ⟨ads, es, hxs⟩ := Kd.at_string (Kd.C_below HCP.out HB3.out) i hi hi1
       cases es
       go_wp2_with fail
       refine (Tryz.B_WriteString wo.heap.size wo.heap.size _ _ _ HBL.out (wr_len (by simp) hcat hi hi1) HB3.out.size).mono ?_
       rintro e w5 ⟨rfl, hbl, hbw⟩
       have HBL5 := Aside0.mk (wr_step hi hi1 hbl)
       have HB5 : Aside0 (Below wo.heap.size wo w5) := ⟨HB3.out.trans (hbw.mono (Nat.le_refl _))⟩
       clear hbl hbw
       go_wp2_with fail
       go_roundw
       case rel => exact ⟨i - 1, by rfl, by omega, by omega, HBL5, HB5⟩
       case measure => simp [intOf]; omega
      ·have hi2 : i = -1 := by omega
       have HI2 := Aside0.mk hi2
       clear hi2
       have hi3 : i < 0 := by omega
       go_wp2_with fail
       refine (Tryz.Builder_String_any wo.heap.size wo.heap.size ([] ++ catL acc) _ (by have h := HBL.out; rw [HI2.out] at h; exact h) HB3.out.size).mono ?_
       rintro e w6 ⟨rfl, hbw⟩
       go_wp2_with fail
       go_ret
       exact ⟨rfl, HB.out.trans ((HB3.out.trans hbw).mono HB.out.size)⟩
   ·have hmI : (0 : Int) < (m.length : Int) := by omega
    have h := HA.out
    unfold strL at h
    rw [if_neg hm] at h
    obtain ⟨⟨q, r⟩, hsh, h⟩ := Option.bind_eq_some_iff.mp h
    obtain ⟨m', hn, h⟩ := Option.bind_eq_some_iff.mp h
    have HSH := Aside0.mk hsh
    have HN := Aside0.mk hn
    clear hsh hn hm
    dsimp only at h
    by_cases hr : 0 ≤ r ∧ r < 1000000000 ∧ acc.length < 100000
    ·rw [if_pos hr] at h
     have HH := Aside0.mk h
     obtain ⟨hr0, hr1, hal⟩ := hr
     clear h HA
     have HAL := Aside0.mk (show (acc.length + 1) * 16 ≤ 140737488355328 by omega)
     have hsl := Kd.V_reads' HV.out
     go_wp2_with fail
     refine (Y.wide_short.calls K0 Am cm m 1000000000 q r wr hsl.2.2 hsl.2.1 HSH.out).mono ?_
     rintro e w3 ⟨vq, rfl, hRq, hb3⟩
     obtain ⟨Aq, cq, rfl⟩ := Kd.R_slice hRq
     have HVQ := Aside0.mk (Kd.R_V (base' := w3.heap.size) (Kd.R_mono (Kd.R_bound hRq) (fun k_ hk => (show wr.heap.size ≤ k_ from hk.2.1))))
     have HO3 := Aside0.mk (Kd.R_below HO.out hb3)
     have HX3 := Aside0.mk (blk_below HX.out hb3)
     have HB3 := Aside0.mk (HB.out.trans (hb3.mono HB.out.size))
     have hows : ∀ k, u3.ownBlock = some k → k < wr.heap.size := fun k hk => ((Kd.R_bound HO.out).1 k hk).2.2.1
     have HOW := Aside0.mk hows
     have HS3 := Aside0.mk hb3.size
     clear hRq hb3 hsl HO HX HB HV hows HSH
     go_wp2_with fail
     refine (Y.wide_normal.calls K0 (fun k_ => wr.heap.size ≤ k_) Aq cq q m' w3 HVQ.out HN.out).mono ?_
     rintro e w4 ⟨vm, rfl, hVm, hb4⟩
     obtain ⟨Am', cm', rfl⟩ := Kd.V_slice hVm
     have HVM := Aside0.mk (Kd.V_mono hVm (fun k_ hk => (show wr.heap.size ≤ k_ from hk.elim id (fun h_ => Nat.le_trans HS3.out h_))))
     have HO4 := Aside0.mk (Kd.R_below HO3.out hb4)
     have HX4 := Aside0.mk (blk_below HX3.out hb4)
     have HB4 := Aside0.mk (HB3.out.trans (hb4.mono HB3.out.size))
     clear hVm hb4 HO3 HX3 HB3 HVQ HN
     go_wp2_with fail
     refine (Tryz.strconv_Itoa r (by omega) (by omega) w4 (HG.out.of_below HB4.out).base.pow10).mono ?_
     rintro e w5 ⟨rfl, kk, os, hw5⟩
     have hb5 : Below w4.heap.size w4 w5 := by rw [hw5]; exact Lib.below_grow _ _ (Nat.le_refl _) _ _
     clear hw5
     have HVM5 := Aside0.mk (Kd.V_below HVM.out hb5)
     have HO5 := Aside0.mk (Kd.R_below HO4.out hb5)
     have HX5 := Aside0.mk (blk_below HX4.out hb5)
     have HB5 := Aside0.mk (HB4.out.trans (hb5.mono HB4.out.size))
     clear hb5 HVM HO4 HX4 HB4
     by_cases hm2 : 0 < m'.length
     ·have hm2I : (0 : Int) < (m'.length : Int) := by omega
      have HHX : Aside0 (strL k1 m' (acc ++ [partS true r]) = some L) := by
       have h := HH.out
       rw [show decide (0 < m'.length) = true from decide_eq_true hm2] at h
       exact ⟨h⟩
      clear HH
      have hil := itoa_len hr0 hr1
      have hwr : 9 - ((Lib.itoa r).length : Int) = ((9 - (Lib.itoa r).length : Nat) : Int) := by omega
      have HWR := Aside0.mk hwr
      clear hwr
      go_wp2_with fail
      rw [HWR.out]
      refine (Tryz.strings_Repeat ⟨#[48]⟩ (9 - (Lib.itoa r).length) w5 (by omega) (by show 1 * _ ≤ _; omega)).mono ?_
      rintro e w6 ⟨rfl, hb6⟩
      have HVM6 := Aside0.mk (Kd.V_below HVM5.out hb6)
      have HO6 := Aside0.mk (Kd.R_below HO5.out hb6)
      have HX6 := Aside0.mk (blk_below HX5.out hb6)
      have HB6 := Aside0.mk (HB5.out.trans (hb6.mono HB5.out.size))
      clear hb6 HVM5 HO5 HX5 HB5
      have hrl : (Lib.repeatL [48] (9 - (Lib.itoa r).length)).length ≤ 9 := by rw [Lib.repeatL_length]; show (9 - (Lib.itoa r).length) * 1 ≤ 9; omega
      have hsz1 : (9223372036854775807 < (⟨(Lib.repeatL [48] (9 - (Lib.itoa r).length)).toArray⟩ : ByteArray).size + (⟨(Lib.itoa r).toArray⟩ : ByteArray).size) = False := eq_false (by show ¬ 9223372036854775807 < (Lib.repeatL [48] (9 - (Lib.itoa r).length)).length + (Lib.itoa r).length; omega)
      have hsz2 : (9223372036854775807 < (Lib.repeatL [48] (9 - (Lib.itoa r).length)).length + (Lib.itoa r).length) = False := eq_false (by omega)
      clear hrl hil HWR
      go_wp2_with (((with_reducible refine gate_builtin (b := .append) (xs := #[.tmp 38, .tmp 40]) rfl ?_); at_builtin; refine Kd.R_append Kd.string (W := w6) (w0 := w) w.heap.size ?g1 (.tmp 38) (.tmp 40) 30 9 (.string ⟨#[]⟩) 16 ?g2 Tryz.underlying30 info9 rfl (by decide) (by omega) u3 acc (((⟨(Lib.repeatL [48] (9 - (Lib.itoa r).length)).toArray⟩ : ByteArray) ++ ⟨(Lib.itoa r).toArray⟩)) [.string (((⟨(Lib.repeatL [48] (9 - (Lib.itoa r).length)).toArray⟩ : ByteArray) ++ ⟨(Lib.itoa r).toArray⟩))] (fun _ => True) (fun _ => False) ?g3 ?g4 ?aP (fun _ hk => hk.elim) ?aF ?aO ?aB ?aS ?aL ?_; (case g1 => rfl); (case g2 => rfl); (case g3 => rfl); (case g4 => rfl); (case aP => exact rfl); (case aB => exact HB6.out); (case aF => exact (fun _ _ => trivial)); (case aO => exact HO6.out); (case aS => exact HB6.out.size); (case aL => exact HAL.out); intro v1 w7 ho7 hb7 hg7 hat7; have n0_ := Aside0.mk ho7; have n1_ := Aside0.mk hb7; have n2_ := Aside0.mk hg7; have n3_ := Aside0.mk hat7; clear ho7 hb7 hg7 hat7))
      go_roundg k1
      case rel =>
       refine ⟨acc ++ [((⟨(Lib.repeatL [48] (9 - (Lib.itoa r).length)).toArray⟩ : ByteArray) ++ ⟨(Lib.itoa r).toArray⟩)], m', HHX, n0_, ⟨?_⟩, ⟨?_⟩, n1_⟩
       ·exact Kd.V_after (Kd.V_mono HVM6.out (fun k_ hk => ⟨trivial, fun he => by have := HOW.out k_ he.symm; omega⟩)) n2_.out n3_.out
       ·exact blk_grown HX6.out n2_.out (Kd.R_ne HO6.out HX6.out (by decide))
      case measure => omega
     ·have hm2I : ¬ (0 : Int) < (m'.length : Int) := by omega
      have HHX : Aside0 (strL k1 m' (acc ++ [(⟨(Lib.itoa r).toArray⟩ : ByteArray)]) = some L) := by
       have h := HH.out
       rw [show decide (0 < m'.length) = false from decide_eq_false hm2] at h
       exact ⟨h⟩
      clear HH
      go_wp2_with (((with_reducible refine gate_builtin (b := .append) (xs := #[.tmp 38, .tmp 40]) rfl ?_); at_builtin; refine Kd.R_append Kd.string (w0 := w) w.heap.size rfl (.tmp 38) (.tmp 40) 30 9 (.string ⟨#[]⟩) 16 rfl Tryz.underlying30 info9 rfl (by decide) (by omega) u3 acc ((⟨(Lib.itoa r).toArray⟩ : ByteArray)) [.string ((⟨(Lib.itoa r).toArray⟩ : ByteArray))] (fun _ => True) (fun _ => False) rfl rfl ?aP (fun _ hk => hk.elim) ?aF ?aO ?aB ?aS ?aL ?_; (case aP => exact rfl); (case aB => exact HB5.out); (case aF => exact (fun _ _ => trivial)); (case aO => exact HO5.out); (case aS => exact HB5.out.size); (case aL => exact HAL.out); intro v1 w7 ho7 hb7 hg7 hat7; have n0_ := Aside0.mk ho7; have n1_ := Aside0.mk hb7; have n2_ := Aside0.mk hg7; have n3_ := Aside0.mk hat7; clear ho7 hb7 hg7 hat7))
      go_roundg k1
      case rel =>
       refine ⟨acc ++ [(⟨(Lib.itoa r).toArray⟩ : ByteArray)], m', HHX, n0_, ⟨?_⟩, ⟨?_⟩, n1_⟩
       ·exact Kd.V_after (Kd.V_mono HVM5.out (fun k_ hk => ⟨trivial, fun he => by have := HOW.out k_ he.symm; omega⟩)) n2_.out n3_.out
       ·exact blk_grown HX5.out n2_.out (Kd.R_ne HO5.out HX5.out (by decide))
      case measure => omega
    ·rw [if_neg hr] at h
     cases h
theorem wide_Int_String.calls (a0_0 : Bool) (A0_1 : Option Addr) (c0_1 : Nat) (l0_1 : List Int) (r : ByteArray) (w : World) (hr0_1 : Kd.C (Kd.int .u32) w A0_1 l0_1.length l0_1) (hc0_1 : l0_1.length ≤ c0_1) (h : wide_Int_String.f a0_0 l0_1 = some r) (hG : GOK w) :
  Calls Tryz.prog 19 #[.agg #[.bool a0_0, .slice A0_1 l0_1.length c0_1]] w fun e w' => e = .returned (.string r) ∧ Below w.heap.size w w' := by
 unfold wide_Int_String.f at h
 by_cases h0 : l0_1.length = 0
 ·rw [if_pos h0] at h
  injection h with h
  subst h
  have hlI : ((l0_1.length : Int) == 0) = true := by rw [beq_iff_eq]; omega
  clear h0
  go_enter Tryz.func19, Tryz.ntmps19
  go_wp2_with fail
  go_ret
  exact ⟨rfl, (Below.refl _ _).alloc (Nat.le_refl _) _⟩
 ·rw [if_neg h0] at h
  obtain ⟨L, hL, h⟩ := Option.bind_eq_some_iff.mp h
  split at h
  ·rename_i hcat
   injection h with h
   subst h
   exact str_walk a0_0 A0_1 c0_1 l0_1 L w hr0_1 hc0_1 h0 hL hcat hG
  ·cases h
end Go.Proofs.YtlceokefdihdkaaGreatDoor.X
