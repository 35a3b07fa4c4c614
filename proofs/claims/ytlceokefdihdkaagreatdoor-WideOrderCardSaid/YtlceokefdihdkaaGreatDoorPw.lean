import Derived.Test.YtlceokefdihdkaaGreatDoorWWords
import Derived.Test.YtlceokefdihdkaaGreatDoorExs
import Derived.Test.YtlceokefdihdkaaGreatDoorXx0
import Derived.Test.YtlceokefdihdkaaGreatDoorXx1
import Derived.Test.YtlceokefdihdkaaGreatDoorXx10
import Derived.Test.YtlceokefdihdkaaGreatDoorXx2
import Derived.Test.YtlceokefdihdkaaGreatDoorXx3
import Derived.Test.YtlceokefdihdkaaGreatDoorXx4
import Derived.Test.YtlceokefdihdkaaGreatDoorXx5
import Derived.Test.YtlceokefdihdkaaGreatDoorXx6
import Derived.Test.YtlceokefdihdkaaGreatDoorXx7
import Derived.Test.YtlceokefdihdkaaGreatDoorXx8
import Derived.Test.YtlceokefdihdkaaGreatDoorXx9
import Derived.Test.YtlceokefdihdkaaGreatDoorExa
import Derived.Test.YtlceokefdihdkaaGreatDoorExc
import Derived.Test.YtlceokefdihdkaaGreatDoorExd
import Derived.IntWalk
import Derived.Lib.EndianBits
import Derived.Lib.AtoiTie
namespace Go.Proofs.YtlceokefdihdkaaGreatDoor
open Go.RowKit Go.Proofs.YtlceokefdihdkaaGreatDoorW.PrintWords
def Ev {α : Type} (f : Nat → Option α) (x : α) : Prop := ∃ k0, ∀ k, k0 ≤ k → f k = some x
namespace Ev
variable {α β : Type}
theorem ok (x : α) : Ev (fun _ => some x) x := ⟨0, fun _ _ => rfl⟩
theorem of_eq {f : Nat → Option α} {x : α} (h : ∀ k, f k = some x) : Ev f x := ⟨0, fun k _ => h k⟩
theorem ex {f : Nat → Option α} {x : α} (h : Ev f x) : ∃ k, f k = some x := by obtain ⟨k0, h⟩ := h; exact ⟨k0, h k0 (Nat.le_refl _)⟩
theorem up {f : Nat → Option α} {x : α} (h : Ev (fun k => f (k + 1)) x) : Ev f x := by
 obtain ⟨k0, h⟩ := h
 refine ⟨k0 + 1, fun k hk => ?_⟩
 obtain ⟨j, rfl⟩ : ∃ j, k = j + 1 := ⟨k - 1, by omega⟩
 exact h j (by omega)
theorem of_mono {f : Nat → Option α} {x : α} (m : ∀ k, LeO (f k) (f (k + 1))) {k0 : Nat} (h : f k0 = some x) : Ev f x := by
 refine ⟨k0, fun k hk => ?_⟩
 induction hk with
 | refl => exact h
 | step _ ih => exact m _ _ ih
theorem bind {f : Nat → Option α} {g : Nat → α → Option β} {x : α} {y : β} (h : Ev f x) (k : Ev (fun k => g k x) y) : Ev (fun k => (f k).bind (g k)) y := by
 obtain ⟨a, ha⟩ := h
 obtain ⟨b, hb⟩ := k
 refine ⟨max a b, fun k hk => ?_⟩
 show (f k).bind (g k) = some y
 rw [ha k (by omega)]
 exact hb k (by omega)
theorem bind0 {v : Option α} {g : Nat → α → Option β} {x : α} {y : β} (h : v = some x) (k : Ev (fun k => g k x) y) : Ev (fun k => v.bind (g k)) y := by
 subst h
 exact k
theorem pos {c : Prop} [Decidable c] {t e : Nat → Option α} {x : α} (h : c) (k : Ev t x) : Ev (fun k => if c then t k else e k) x := by
 obtain ⟨a, ha⟩ := k
 exact ⟨a, fun k hk => (if_pos h).trans (ha k hk)⟩
theorem neg {c : Prop} [Decidable c] {t e : Nat → Option α} {x : α} (h : ¬ c) (k : Ev e x) : Ev (fun k => if c then t k else e k) x := by
 obtain ⟨a, ha⟩ := k
 exact ⟨a, fun k hk => (if_neg h).trans (ha k hk)⟩
theorem cast {f : Nat → Option α} {x y : α} (h : Ev f x) (e : x = y) : Ev f y := e ▸ h
theorem of {f g : Nat → Option α} {x : α} (h : Ev f x) (e : ∀ k, g k = f k) : Ev g x := by
 obtain ⟨a, ha⟩ := h
 exact ⟨a, fun k hk => (e k).trans (ha k hk)⟩
end Ev
theorem wrap_id {n : Int} (h : -9223372036854775808 ≤ n) (h2 : n < 9223372036854775808) : wrap64 n = n := by unfold wrap64; omega
theorem wrap_succ (p : Nat) (h : p < 4611686018427387904) : wrap64 ((p : Int) + 1) = ((p + 1 : Nat) : Int) := by unfold wrap64; omega
end Go.Proofs.YtlceokefdihdkaaGreatDoor
namespace Go.Proofs.YtlceokefdihdkaaGreatDoor
open Go.RowKit Go.Proofs.YtlceokefdihdkaaGreatDoorW.PrintWords Go.Proofs.YtlceokefdihdkaaGreatDoorW.PrintLast Go.Proofs.YtlceokefdihdkaaGreatDoorW.PrintMore
open X
set_option linter.unusedSimpArgs false
set_option linter.unusedVariables false
theorem rd_mid (p : List Int) (x : Int) (q : List Int) (i : Int) (h : i = p.length) : rd (p ++ x :: q) i = x := by
 subst h
 unfold rd
 rw [Int.toNat_natCast]
 simp [List.getD_eq_getElem?_getD]
theorem rd_eq (l : List Int) (i : Nat) (h : i < l.length) : rd l (i : Int) = l[i] := by
 unfold rd
 rw [Int.toNat_natCast]
 simp [List.getD_eq_getElem?_getD, h]
theorem drop_rd (l : List Int) (i : Nat) (h : i < l.length) : l.drop i = rd l (i : Int) :: l.drop (i + 1) := by
 rw [rd_eq l i h, List.drop_eq_getElem_cons h]
theorem rd_wf {B : Int} {l : List Int} (hw : wf B l) {i : Int} (h0 : 0 ≤ i) (h : i < l.length) : 0 ≤ rd l i ∧ rd l i < B := by
 obtain ⟨n, rfl⟩ := Int.eq_ofNat_of_zero_le h0
 rw [rd_eq l n (by omega)]
 exact hw _ (List.getElem_mem ..)
def nml (l : List Int) : List Int := (l.reverse.dropWhile (fun x => x == 0)).reverse
theorem nml_zero (l : List Int) : nml (l ++ [0]) = nml l := by unfold nml; simp
theorem nml_ne (l : List Int) {x : Int} (h : x ≠ 0) : nml (l ++ [x]) = l ++ [x] := by
 unfold nml
 simp [h]
theorem snoc_ind {P : List Int → Prop} (h0 : P []) (h1 : ∀ l x, P l → P (l ++ [x])) (l : List Int) : P l := by
 have : ∀ n, ∀ l : List Int, l.length = n → P l := by
  intro n
  induction n with
  | zero => intro l hl; rw [List.length_eq_zero_iff.1 hl]; exact h0
  | succ n ih =>
   intro l hl
   obtain ⟨m, x, rfl⟩ := snoc_of_ne l (by rintro rfl; simp at hl)
   exact h1 m x (ih m (by simpa using hl))
 exact this _ l rfl
theorem nml_bv (B : Int) (l : List Int) : bv B (nml l) = bv B l := by
 induction l using snoc_ind with
 | h0 => rfl
 | h1 l x ih =>
  by_cases hx : x = 0
  ·subst hx; rw [nml_zero, ih, bv_snoc]; simp
  ·rw [nml_ne l hx]
theorem nml_nrm (l : List Int) : nrm (nml l) := by
 induction l using snoc_ind with
 | h0 => exact nrm_nil
 | h1 l x ih =>
  by_cases hx : x = 0
  ·subst hx; rw [nml_zero]; exact ih
  ·rw [nml_ne l hx]; exact nrm_snoc.2 hx
theorem nml_wf {B : Int} {l : List Int} (h : wf B l) : wf B (nml l) := by
 induction l using snoc_ind with
 | h0 => exact h
 | h1 l x ih =>
  by_cases hx : x = 0
  ·subst hx; rw [nml_zero]; exact ih (wf_append.1 h).1
  ·rw [nml_ne l hx]; exact h
theorem nml_len (l : List Int) : (nml l).length ≤ l.length := by
 induction l using snoc_ind with
 | h0 => exact Nat.le_refl _
 | h1 l x ih =>
  by_cases hx : x = 0
  ·subst hx; rw [nml_zero]; simp; omega
  ·rw [nml_ne l hx]; exact Nat.le_refl _
theorem xnormal_run (l : List Int) : l.length < 4611686018427387904 → ∀ k, l.length < k → wide_normal.f k l = some (nml l) := by
 induction l using snoc_ind with
 | h0 =>
  intro _ k hk
  obtain ⟨k, rfl⟩ : ∃ m, k = m + 1 := ⟨k - 1, by omega⟩
  rfl
 | h1 l x ih =>
  intro hl k hk
  rw [List.length_append, List.length_singleton] at hl hk
  obtain ⟨k, rfl⟩ : ∃ m, k = m + 1 := ⟨k - 1, by omega⟩
  have hw : wrap64 (((l ++ [x]).length : Int) - 1) = l.length := by rw [List.length_append, List.length_singleton]; unfold wrap64; omega
  unfold wide_normal.f
  simp only [wide_normal.l0]
  rw [hw, if_pos (by rw [List.length_append, List.length_singleton]; omega), if_pos (by omega), if_pos (by rw [List.length_append, List.length_singleton]; omega), rd_mid l x [] _ rfl]
  by_cases hx : x = 0
  ·subst hx
   rw [if_pos rfl, if_pos (by rw [List.length_append, List.length_singleton]; omega), Int.toNat_natCast, List.take_left, nml_zero]
   exact ih (by omega) k (by omega)
  ·rw [if_neg hx, nml_ne l hx]
theorem ynormal_run (l : List Int) : l.length < 4611686018427387904 → ∀ k, l.length < k → Y.wide_normal.f k l = some (nml l) := by
 induction l using snoc_ind with
 | h0 =>
  intro _ k hk
  obtain ⟨k, rfl⟩ : ∃ m, k = m + 1 := ⟨k - 1, by omega⟩
  rfl
 | h1 l x ih =>
  intro hl k hk
  rw [List.length_append, List.length_singleton] at hl hk
  obtain ⟨k, rfl⟩ : ∃ m, k = m + 1 := ⟨k - 1, by omega⟩
  have hw : wrap64 (((l ++ [x]).length : Int) - 1) = l.length := by rw [List.length_append, List.length_singleton]; unfold wrap64; omega
  unfold Y.wide_normal.f
  simp only [Y.wide_normal.l0]
  rw [hw, if_pos (by rw [List.length_append, List.length_singleton]; omega), if_pos (by omega), if_pos (by rw [List.length_append, List.length_singleton]; omega), rd_mid l x [] _ rfl]
  by_cases hx : x = 0
  ·subst hx
   rw [if_pos rfl, if_pos (by rw [List.length_append, List.length_singleton]; omega), Int.toNat_natCast, List.take_left, nml_zero]
   exact ih (by omega) k (by omega)
  ·rw [if_neg hx, nml_ne l hx]
theorem rnormal_run (neg : Bool) (l : List Int) : l.length < 4611686018427387904 → ∀ k, l.length < k → worldmintref05_normal.f k neg l = some (neg && decide (0 < (nml l).length), nml l) := by
 induction l using snoc_ind with
 | h0 =>
  intro _ k hk
  obtain ⟨k, rfl⟩ : ∃ m, k = m + 1 := ⟨k - 1, by omega⟩
  cases neg <;> rfl
 | h1 l x ih =>
  intro hl k hk
  rw [List.length_append, List.length_singleton] at hl hk
  obtain ⟨k, rfl⟩ : ∃ m, k = m + 1 := ⟨k - 1, by omega⟩
  have hw : wrap64 (((l ++ [x]).length : Int) - 1) = l.length := by rw [List.length_append, List.length_singleton]; unfold wrap64; omega
  unfold worldmintref05_normal.f
  simp only [worldmintref05_normal.l0]
  rw [hw, if_pos (by rw [List.length_append, List.length_singleton]; omega), if_pos (by omega), if_pos (by rw [List.length_append, List.length_singleton]; omega), rd_mid l x [] _ rfl]
  by_cases hx : x = 0
  ·subst hx
   rw [if_pos rfl, if_pos (by rw [List.length_append, List.length_singleton]; omega), Int.toNat_natCast, List.take_left, nml_zero]
   exact ih (by omega) k (by omega)
  ·rw [if_neg hx, nml_ne l hx]
   cases neg <;> simp
theorem xnormal_ev {l : List Int} (h : l.length < 4611686018427387904) : Ev (fun k => wide_normal.f k l) (nml l) := ⟨l.length + 1, fun k hk => xnormal_run l h k (by omega)⟩
theorem rnormal_ev (neg : Bool) {l : List Int} (h : l.length < 4611686018427387904) : Ev (fun k => worldmintref05_normal.f k neg l) (neg && decide (0 < (nml l).length), nml l) := ⟨l.length + 1, fun k hk => rnormal_run neg l h k (by omega)⟩
def cmpI (a b : Int) : Int := if a < b then -1 else if a > b then 1 else 0
theorem cmpI_lt {a b : Int} (h : a < b) : cmpI a b = -1 := if_pos h
theorem cmpI_gt {a b : Int} (h : b < a) : cmpI a b = 1 := by unfold cmpI; rw [if_neg (by omega), if_pos h]
theorem cmpI_eq (a : Int) : cmpI a a = 0 := by unfold cmpI; rw [if_neg (by omega), if_neg (by omega)]
theorem take_succ_rd (l : List Int) (n : Nat) (h : n < l.length) : l.take (n + 1) = l.take n ++ [rd l n] := by
 rw [rd_eq l n h, List.take_succ_eq_append_getElem h]
theorem rcompared_run {B : Int} (hB : 0 < B) {a b : List Int} (ha : wf B a) (hb : wf B b) (hl : a.length = b.length) (hz : a.length < 4611686018427387904) : ∀ (n : Nat), n ≤ a.length → ∀ k, n < k →
  worldmintref05_compared.l0 k a b ((n : Int) - 1) = some (cmpI (bv B (a.take n)) (bv B (b.take n))) := by
 intro n
 induction n with
 | zero =>
  intro _ k hk
  obtain ⟨k, rfl⟩ : ∃ m, k = m + 1 := ⟨k - 1, by omega⟩
  rfl
 | succ n ih =>
  intro hn k hk
  obtain ⟨k, rfl⟩ : ∃ m, k = m + 1 := ⟨k - 1, by omega⟩
  have e : ((n + 1 : Nat) : Int) - 1 = n := by omega
  rw [e]
  simp only [worldmintref05_compared.l0]
  rw [if_pos (by omega), if_pos (by omega), if_pos (by omega), if_pos (by omega), take_succ_rd a n (by omega), take_succ_rd b n (by omega)]
  have hwa := wf_take ha n
  have hwb := wf_take hb n
  have hll : (a.take n).length = (b.take n).length := by simp; omega
  by_cases h1 : rd a n < rd b n
  ·rw [if_pos h1, cmpI_lt (bv_snoc_lt hB hwa hwb hll h1)]
  ·rw [if_neg h1]
   by_cases h2 : rd a n > rd b n
   ·rw [if_pos h2, cmpI_gt (bv_snoc_lt hB hwb hwa hll.symm h2)]
   ·rw [if_neg h2, show wrap64 ((n : Int) - 1) = (n : Int) - 1 from wrap_id (by omega) (by omega), ih (by omega) k (by omega)]
    have h3 : rd a n = rd b n := by omega
    rw [bv_snoc, bv_snoc, h3, hll]
    congr 1
    unfold cmpI
    have q : ∀ x y z : Int, ((x + z < y + z) ↔ x < y) := fun x y z => by omega
    have q2 : ∀ x y z : Int, ((x + z > y + z) ↔ x > y) := fun x y z => by omega
    simp only [q, q2]
theorem rcompared_ev {B : Int} (hB : 1 < B) {a b : List Int} (ha : wf B a) (hb : wf B b) (na : nrm a) (nb : nrm b) (hz : a.length < 4611686018427387904) : Ev (fun k => worldmintref05_compared.f k a b) (cmpI (bv B a) (bv B b)) := by
 refine ⟨a.length + 1, fun k hk => ?_⟩
 show worldmintref05_compared.f k a b = _
 unfold worldmintref05_compared.f
 rcases Nat.lt_trichotomy a.length b.length with h | h | h
 ·rw [if_pos (by omega), cmpI_lt (bv_len_lt hB ha hb nb h)]
 ·rw [if_neg (by omega), if_neg (by omega), show wrap64 ((a.length : Int) - 1) = (a.length : Int) - 1 from wrap_id (by omega) (by omega), rcompared_run (by omega) ha hb h hz a.length (Nat.le_refl _) k (by omega), List.take_length, h, List.take_length]
 ·rw [if_neg (by omega), if_pos (by omega), cmpI_gt (bv_len_lt hB hb ha na h)]
theorem xcmp_int (a b : Int) : X.cmp_Compare_int.f a b = some (cmpI a b) := by
 unfold X.cmp_Compare_int.f X.cmp_isNaN_int.f cmpI
 simp
 split <;> (try rfl)
 split <;> rfl
theorem xcmp_u32 (a b : Int) : X.cmp_Compare_uint32.f a b = some (cmpI a b) := by
 unfold X.cmp_Compare_uint32.f X.cmp_isNaN_uint32.f cmpI
 simp
 split <;> (try rfl)
 split <;> rfl
theorem xcompare_l {B : Int} (hB : 0 < B) {a b : List Int} (ha : wf B a) (hb : wf B b) (hl : a.length = b.length) (hz : a.length < 4611686018427387904) : ∀ (n : Nat), n ≤ a.length → ∀ k, n < k →
  X.wide_compare.l0 k a b ((n : Int) - 1) = some (cmpI (bv B (a.take n)) (bv B (b.take n))) := by
 intro n
 induction n with
 | zero =>
  intro _ k hk
  obtain ⟨k, rfl⟩ : ∃ m, k = m + 1 := ⟨k - 1, by omega⟩
  rfl
 | succ n ih =>
  intro hn k hk
  obtain ⟨k, rfl⟩ : ∃ m, k = m + 1 := ⟨k - 1, by omega⟩
  have e : ((n + 1 : Nat) : Int) - 1 = n := by omega
  rw [e]
  simp only [X.wide_compare.l0]
  rw [if_pos (by omega), if_pos (by omega), if_pos (by omega), if_pos (by omega), take_succ_rd a n (by omega), take_succ_rd b n (by omega), xcmp_u32]
  simp only [Option.bind_some]
  have hwa := wf_take ha n
  have hwb := wf_take hb n
  have hll : (a.take n).length = (b.take n).length := by simp; omega
  rcases Int.lt_trichotomy (rd a n) (rd b n) with h1 | h1 | h1
  ·rw [cmpI_lt h1, if_neg (by decide), cmpI_lt (bv_snoc_lt hB hwa hwb hll h1)]
  ·rw [h1, cmpI_eq, if_pos rfl, show wrap64 ((n : Int) - 1) = (n : Int) - 1 from wrap_id (by omega) (by omega), ih (by omega) k (by omega)]
   rw [bv_snoc, bv_snoc, hll]
   congr 1
   unfold cmpI
   have q : ∀ x y z : Int, ((x + z < y + z) ↔ x < y) := fun x y z => by omega
   have q2 : ∀ x y z : Int, ((x + z > y + z) ↔ x > y) := fun x y z => by omega
   simp only [q, q2]
  ·rw [cmpI_gt h1, if_neg (by decide), cmpI_gt (bv_snoc_lt hB hwb hwa hll.symm h1)]
theorem xcompare_run {B : Int} (hB : 1 < B) {a b : List Int} (ha : wf B a) (hb : wf B b) (na : nrm a) (nb : nrm b) (hz : a.length < 4611686018427387904) (k : Nat) (hk : a.length < k) : X.wide_compare.f k a b = some (cmpI (bv B a) (bv B b)) := by
 unfold X.wide_compare.f
 rw [xcmp_int]
 simp only [Option.bind_some]
 rcases Nat.lt_trichotomy a.length b.length with h | h | h
 ·rw [cmpI_lt (by omega : (a.length : Int) < b.length), if_neg (by decide), cmpI_lt (bv_len_lt hB ha hb nb h)]
 ·rw [h, cmpI_eq, if_pos rfl, ← h, show wrap64 ((a.length : Int) - 1) = (a.length : Int) - 1 from wrap_id (by omega) (by omega), xcompare_l (by omega) ha hb h hz a.length (Nat.le_refl _) k (by omega), List.take_length, h, List.take_length]
 ·rw [cmpI_gt (by omega : (b.length : Int) < a.length), if_neg (by decide), cmpI_gt (bv_len_lt hB hb ha na h)]
end Go.Proofs.YtlceokefdihdkaaGreatDoor
namespace Go.Proofs.YtlceokefdihdkaaGreatDoor
open Go.RowKit Go.Proofs.YtlceokefdihdkaaGreatDoorW.PrintWords Go.Proofs.YtlceokefdihdkaaGreatDoorW.PrintLast Go.Proofs.YtlceokefdihdkaaGreatDoorW.PrintMore
open X
set_option linter.unusedSimpArgs false
set_option linter.unusedVariables false
theorem tmod_pos {a b : Int} (h : 0 ≤ a) : Int.tmod a b = a % b := Int.tmod_eq_emod_of_nonneg h
theorem tdiv_pos {a b : Int} (h : 0 ≤ a) : Int.tdiv a b = a / b := Int.tdiv_eq_ediv_of_nonneg h
def plusL : Int → List Int → List Int → List Int
 | c, [], [] => if c > 0 then [c] else []
 | c, x :: a, [] => (x + c) % 10000 :: plusL ((x + c) / 10000) a []
 | c, [], y :: b => (y + c) % 10000 :: plusL ((y + c) / 10000) [] b
 | c, x :: a, y :: b => (x + y + c) % 10000 :: plusL ((x + y + c) / 10000) a b
theorem plusL_spec : ∀ (a b : List Int) (c : Int), wf 10000 a → wf 10000 b → 0 ≤ c → c ≤ 1 →
  bv 10000 (plusL c a b) = bv 10000 a + bv 10000 b + c ∧ wf 10000 (plusL c a b) ∧ (plusL c a b).length ≤ max a.length b.length + 1
 | [], [], c, _, _, h0, h1 => by
  unfold plusL
  split
  ·exact ⟨by simp [bv], wf_one (by omega) (by omega), by simp⟩
  ·exact ⟨by simp [bv]; omega, wf_nil _, by simp⟩
 | x :: a, [], c, ha, hb, h0, h1 => by
  have hx := wf_cons.1 ha
  obtain ⟨i1, i2, i3⟩ := plusL_spec a [] ((x + c) / 10000) hx.2 hb (by omega) (by omega)
  unfold plusL
  refine ⟨?_, wf_cons.2 ⟨by omega, i2⟩, by simp at i3 ⊢; omega⟩
  simp only [bv] at i1 ⊢
  omega
 | [], y :: b, c, ha, hb, h0, h1 => by
  have hx := wf_cons.1 hb
  obtain ⟨i1, i2, i3⟩ := plusL_spec [] b ((y + c) / 10000) ha hx.2 (by omega) (by omega)
  unfold plusL
  refine ⟨?_, wf_cons.2 ⟨by omega, i2⟩, by simp at i3 ⊢; omega⟩
  simp only [bv] at i1 ⊢
  omega
 | x :: a, y :: b, c, ha, hb, h0, h1 => by
  have hx := wf_cons.1 ha
  have hy := wf_cons.1 hb
  obtain ⟨i1, i2, i3⟩ := plusL_spec a b ((x + y + c) / 10000) hx.2 hy.2 (by omega) (by omega)
  unfold plusL
  refine ⟨?_, wf_cons.2 ⟨by omega, i2⟩, by simp at i3 ⊢; omega⟩
  simp only [bv] at i1 ⊢
  omega
def dg (l : List Int) (i : Nat) : Int := if i < l.length then rd l i else 0
theorem at_run (l : List Int) (i : Nat) : worldmintref05_at.f l (i : Int) = some (dg l i) := by
 unfold worldmintref05_at.f dg
 by_cases h : i < l.length
 ·rw [if_pos (by omega), if_pos (by omega), if_pos h]
 ·rw [if_neg (by omega), if_neg h]
theorem dg_wf {l : List Int} (h : wf 10000 l) (i : Nat) : 0 ≤ dg l i ∧ dg l i < 10000 := by
 unfold dg
 split
 ·exact rd_wf h (by omega) (by omega)
 ·omega
theorem plusL_step (a b : List Int) (c : Int) (i : Nat) (h : i < a.length ∨ i < b.length) :
  plusL c (a.drop i) (b.drop i) = (dg a i + dg b i + c) % 10000 :: plusL ((dg a i + dg b i + c) / 10000) (a.drop (i + 1)) (b.drop (i + 1)) := by
 unfold dg
 by_cases ha : i < a.length
 ·by_cases hb : i < b.length
  ·rw [drop_rd a i ha, drop_rd b i hb, if_pos ha, if_pos hb, plusL]
  ·rw [drop_rd a i ha, show b.drop i = [] from List.drop_eq_nil_of_le (by omega), show b.drop (i + 1) = [] from List.drop_eq_nil_of_le (by omega), if_pos ha, if_neg hb, Int.add_zero, plusL]
 ·have hb : i < b.length := by omega
  rw [drop_rd b i hb, show a.drop i = [] from List.drop_eq_nil_of_le (by omega), show a.drop (i + 1) = [] from List.drop_eq_nil_of_le (by omega), if_neg ha, if_pos hb, Int.zero_add, plusL]
theorem plus_go (a b : List Int) (ha : wf 10000 a) (hb : wf 10000 b) (hla : a.length ≤ 1000000) (hlb : b.length ≤ 1000000) (acc : List Int) (c : Int) (i : Nat) (hac : acc.length = i) (hi : i ≤ 1000001) (h0 : 0 ≤ c) (h1 : c ≤ 1)
  {r : List Int} (hr : Ev (fun k => worldmintref05_plus.l0 k a b (acc ++ [(dg a i + dg b i + c) % 10000]) ((dg a i + dg b i + c) / 10000) ((i + 1 : Nat) : Int)) r) :
  Ev (fun k => worldmintref05_plus.j1 k a b acc c (i : Int) true) r := by
 refine Ev.up (hr.of fun k => ?_)
 have hda := dg_wf ha i
 have hdb := dg_wf hb i
 simp only [worldmintref05_plus.j1]
 rw [if_pos trivial, at_run, at_run]
 simp only [Option.bind_some]
 rw [if_pos (by omega), show wrap64 (dg a i + dg b i) = dg a i + dg b i from wrap_id (by omega) (by omega), show wrap64 (dg a i + dg b i + c) = dg a i + dg b i + c from wrap_id (by omega) (by omega),
  tmod_pos (by omega), tdiv_pos (by omega), show wrap64 ((dg a i + dg b i + c) / 10000) = (dg a i + dg b i + c) / 10000 from wrap_id (by omega) (by omega), wrap_succ i (by omega)]
theorem plus_run (a b : List Int) (ha : wf 10000 a) (hb : wf 10000 b) (hla : a.length ≤ 1000000) (hlb : b.length ≤ 1000000) (n : Nat) : ∀ (acc : List Int) (c : Int) (i : Nat), acc.length = i → i ≤ 1000000 → 0 ≤ c → c ≤ 1 → a.length ≤ i + n → b.length ≤ i + n →
  Ev (fun k => worldmintref05_plus.l0 k a b acc c (i : Int)) (acc ++ plusL c (a.drop i) (b.drop i)) := by
 induction n with
 | zero =>
  intro acc c i hac hi h0 h1 hna hnb
  rw [List.drop_eq_nil_of_le (by omega), List.drop_eq_nil_of_le (by omega)]
  have hda : dg a i = 0 := by unfold dg; rw [if_neg (by omega)]
  have hdb : dg b i = 0 := by unfold dg; rw [if_neg (by omega)]
  have base : ∀ (acc : List Int) (i : Nat), a.length ≤ i → b.length ≤ i → Ev (fun k => worldmintref05_plus.l0 k a b acc 0 (i : Int)) acc := by
   intro acc i hna hnb
   refine Ev.up (Ev.up ((Ev.ok acc).of fun k => ?_))
   simp only [worldmintref05_plus.l0]
   rw [if_neg (by omega), if_neg (by omega)]
   simp [worldmintref05_plus.j1]
  by_cases hc : c > 0
  ·obtain rfl : c = 1 := by omega
   have hb' := base (acc ++ [1]) (i + 1) (by omega) (by omega)
   have hg := plus_go a b ha hb hla hlb acc 1 i hac (by omega) (by omega) (by omega) (r := acc ++ [1]) (by
    rw [hda, hdb]
    exact hb')
   rw [show plusL 1 [] [] = [1] by simp [plusL]]
   refine Ev.up (hg.of fun k => ?_)
   simp only [worldmintref05_plus.l0]
   rw [if_neg (by omega), if_neg (by omega)]
   rfl
  ·obtain rfl : c = 0 := by omega
   have := base acc i (by omega) (by omega)
   simpa [plusL] using this
 | succ n ih =>
  intro acc c i hac hi h0 h1 hna hnb
  by_cases hlt : i < a.length ∨ i < b.length
  ·rw [plusL_step a b c i hlt]
   have hda := dg_wf ha i
   have hdb := dg_wf hb i
   have hi2 : i + 1 ≤ 1000000 := by omega
   have := ih (acc ++ [(dg a i + dg b i + c) % 10000]) ((dg a i + dg b i + c) / 10000) (i + 1) (by simp [hac]) hi2 (by omega) (by omega) (by omega) (by omega)
   rw [List.append_assoc] at this
   have hg := plus_go a b ha hb hla hlb acc c i hac (by omega) h0 h1 this
   refine Ev.up (hg.of fun k => ?_)
   simp only [worldmintref05_plus.l0]
   by_cases h2 : i < a.length
   ·rw [if_pos (by omega)]
   ·rw [if_neg (by omega), if_pos (by omega)]
  ·have := ih acc c i hac hi h0 h1 (by omega) (by omega)
   exact this
theorem plus_ev {a b : List Int} (ha : wf 10000 a) (hb : wf 10000 b) (hla : a.length ≤ 1000000) (hlb : b.length ≤ 1000000) : Ev (fun k => worldmintref05_plus.f k a b) (plusL 0 a b) :=
 plus_run a b ha hb hla hlb (max a.length b.length) [] 0 0 rfl (by omega) (by omega) (by omega) (by omega) (by omega)
def minusL : Int → List Int → List Int → List Int
 | _, [], _ => []
 | br, x :: a, b => if x - b.headD 0 - br < 0 then (x - b.headD 0 - br + 10000) :: minusL 1 a b.tail else (x - b.headD 0 - br) :: minusL 0 a b.tail
theorem minusL_spec : ∀ (a b : List Int) (br : Int), wf 10000 a → wf 10000 b → 0 ≤ br → br ≤ 1 → b.length ≤ a.length → bv 10000 b + br ≤ bv 10000 a →
  bv 10000 (minusL br a b) = bv 10000 a - bv 10000 b - br ∧ wf 10000 (minusL br a b) ∧ (minusL br a b).length = a.length
 | [], b, br, ha, hb, h0, h1, hl, hle => by
  have : b = [] := List.length_eq_zero_iff.1 (by simpa using hl)
  subst this
  simp only [bv] at hle
  unfold minusL
  exact ⟨by simp [bv]; omega, wf_nil _, rfl⟩
 | x :: a, b, br, ha, hb, h0, h1, hl, hle => by
  have hx := wf_cons.1 ha
  have hy : 0 ≤ b.headD 0 ∧ b.headD 0 < 10000 := by
   cases b with
   | nil => simp
   | cons y b => exact (wf_cons.1 hb).1
  have hbt : bv 10000 b = b.headD 0 + 10000 * bv 10000 b.tail := by
   cases b with
   | nil => rfl
   | cons y b => rfl
  have hbw : wf 10000 b.tail := by
   cases b with
   | nil => exact wf_nil _
   | cons y b => exact (wf_cons.1 hb).2
  have hbl : b.tail.length ≤ a.length := by simp at hl ⊢; omega
  rw [hbt] at hle ⊢
  simp only [bv] at hle ⊢
  unfold minusL
  split
  ·obtain ⟨i1, i2, i3⟩ := minusL_spec a b.tail 1 hx.2 hbw (by omega) (by omega) hbl (by omega)
   refine ⟨?_, wf_cons.2 ⟨by omega, i2⟩, by simp [i3]⟩
   simp only [bv]
   omega
  ·obtain ⟨i1, i2, i3⟩ := minusL_spec a b.tail 0 hx.2 hbw (by omega) (by omega) hbl (by omega)
   refine ⟨?_, wf_cons.2 ⟨by omega, i2⟩, by simp [i3]⟩
   simp only [bv]
   omega
theorem headD_drop (l : List Int) (i : Nat) : (l.drop i).headD 0 = dg l i := by
 unfold dg
 by_cases h : i < l.length
 ·rw [drop_rd l i h, if_pos h]; rfl
 ·rw [List.drop_eq_nil_of_le (by omega), if_neg h]; rfl
theorem minus_run (a b : List Int) (ha : wf 10000 a) (hb : wf 10000 b) (hla : a.length ≤ 1000000) (n : Nat) : ∀ (acc : List Int) (br : Int) (i : Nat), acc.length = i → i ≤ 1000000 → 0 ≤ br → br ≤ 1 → a.length = i + n →
  Ev (fun k => worldmintref05_minus.l0 k a b acc br (i : Int)) (acc ++ minusL br (a.drop i) (b.drop i)) := by
 induction n with
 | zero =>
  intro acc br i hac hi h0 h1 hna
  rw [List.drop_eq_nil_of_le (by omega)]
  refine Ev.up ((Ev.ok _).of fun k => ?_)
  simp only [worldmintref05_minus.l0]
  rw [if_neg (by omega)]
  simp [minusL]
 | succ n ih =>
  intro acc br i hac hi h0 h1 hna
  have hlt : i < a.length := by omega
  have hda := dg_wf ha i
  have hdb := dg_wf hb i
  have e1 : minusL br (a.drop i) (b.drop i) = if dg a i - dg b i - br < 0 then (dg a i - dg b i - br + 10000) :: minusL 1 (a.drop (i + 1)) (b.drop (i + 1)) else (dg a i - dg b i - br) :: minusL 0 (a.drop (i + 1)) (b.drop (i + 1)) := by
   have h2 : dg a i = rd a i := by unfold dg; rw [if_pos hlt]
   rw [drop_rd a i hlt, minusL, headD_drop, h2, List.tail_drop]
  rw [e1]
  have hw1 : wrap64 (dg a i - dg b i) = dg a i - dg b i := wrap_id (by omega) (by omega)
  have hw2 : wrap64 (dg a i - dg b i - br) = dg a i - dg b i - br := wrap_id (by omega) (by omega)
  by_cases hneg : dg a i - dg b i - br < 0
  ·rw [if_pos hneg]
   have := ih (acc ++ [dg a i - dg b i - br + 10000]) 1 (i + 1) (by simp [hac]) (by omega) (by omega) (by omega) (by omega)
   rw [List.append_assoc] at this
   refine Ev.up (this.of fun k => ?_)
   simp only [worldmintref05_minus.l0]
   rw [if_pos (by omega), at_run, at_run]
   simp only [Option.bind_some]
   rw [hw1, hw2, if_pos hneg, if_pos (by omega), show wrap64 (dg a i - dg b i - br + 10000) = dg a i - dg b i - br + 10000 from wrap_id (by omega) (by omega), wrap_succ i (by omega)]
  ·rw [if_neg hneg]
   have := ih (acc ++ [dg a i - dg b i - br]) 0 (i + 1) (by simp [hac]) (by omega) (by omega) (by omega) (by omega)
   rw [List.append_assoc] at this
   refine Ev.up (this.of fun k => ?_)
   simp only [worldmintref05_minus.l0]
   rw [if_pos (by omega), at_run, at_run]
   simp only [Option.bind_some]
   rw [hw1, hw2, if_neg hneg, if_pos (by omega), wrap_succ i (by omega)]
theorem minus_ev {a b : List Int} (ha : wf 10000 a) (hb : wf 10000 b) (hla : a.length ≤ 1000000) : Ev (fun k => worldmintref05_minus.f k a b) (minusL 0 a b) :=
 minus_run a b ha hb hla a.length [] 0 0 rfl (by omega) (by omega) (by omega) (by omega)
theorem w64 {n : Int} (h : 0 ≤ n) (h1 : n < 18446744073709551616) : IntKind.u64.wrap n = n := IntWalk.u64_in n ⟨h, by omega⟩
theorem take_snoc_bv (B : Int) (l : List Int) (i : Nat) (h : i < l.length) : bv B (l.take (i + 1)) = bv B (l.take i) + B ^ i * rd l i := by
 rw [take_succ_rd l i h, bv_snoc, List.length_take, Nat.min_eq_left (by omega)]
theorem carry_step (P s B x : Int) (h : x + P * s = x + P * s) : x + P * (s % B) + (P * B) * (s / B) = x + P * s := by
 have h1 : s % B + B * (s / B) = s := Int.emod_add_mul_ediv s B
 rw [Int.mul_assoc, Int.add_assoc, ← Int.mul_add, h1]
theorem sumSt_spec {a b : List Int} (ha : wf 4294967296 a) (hb : wf 4294967296 b) (hl : b.length ≤ a.length) : ∀ i, i ≤ a.length →
  bv 4294967296 (sumSt a b i).1 + 4294967296 ^ i * (sumSt a b i).2 = bv 4294967296 (a.take i) + bv 4294967296 (b.take i) ∧ wf 4294967296 (sumSt a b i).1 ∧ 0 ≤ (sumSt a b i).2 ∧ (sumSt a b i).2 ≤ 1 := by
 intro i
 induction i with
 | zero => intro _; exact ⟨by simp [sumSt, bv], wf_nil _, by simp [sumSt], by simp [sumSt]⟩
 | succ i ih =>
  intro hi
  obtain ⟨i1, i2, i3, i4⟩ := ih (by omega)
  have hra := rd_wf ha (i := (i : Int)) (by omega) (by omega)
  have hv : vAt a b i = rd a i + (if i < b.length then rd b i else 0) ∧ 0 ≤ vAt a b i ∧ vAt a b i ≤ 8589934590 := by
   unfold vAt
   rw [if_pos (by omega)]
   split
   ·rename_i hib
    have hrb := rd_wf hb (i := (i : Int)) (by omega) (by omega)
    rw [w64 (n := rd a i) (by omega) (by omega), w64 (n := rd a i) (by omega) (by omega), w64 (n := rd b i) (by omega) (by omega), w64 (by omega) (by omega)]
    exact ⟨rfl, by omega, by omega⟩
   ·rw [w64 (n := rd a i) (by omega) (by omega), w64 (n := rd a i) (by omega) (by omega)]
    exact ⟨by omega, by omega, by omega⟩
  have hs : IntKind.u64.wrap ((sumSt a b i).2 + vAt a b i) = (sumSt a b i).2 + vAt a b i := w64 (by omega) (by omega)
  have htb : bv 4294967296 (b.take (i + 1)) = bv 4294967296 (b.take i) + 4294967296 ^ i * (if i < b.length then rd b i else 0) := by
   split
   ·rename_i hib; exact take_snoc_bv _ b i hib
   ·rw [List.take_of_length_le (by omega), List.take_of_length_le (by omega)]; simp
  rw [take_snoc_bv _ a i (by omega), htb]
  simp only [sumSt, hs]
  refine ⟨?_, wf_append.2 ⟨i2, wf_one (by omega) (by omega)⟩, by omega, by omega⟩
  rw [bv_snoc, sumSt_len, Int.pow_succ, carry_step _ _ _ _ rfl, Int.mul_add, hv.1, Int.mul_add]
  omega
theorem sumO_spec {a b : List Int} (ha : wf 4294967296 a) (hb : wf 4294967296 b) (hl : b.length ≤ a.length) :
  bv 4294967296 (sumO a b) = bv 4294967296 a + bv 4294967296 b ∧ wf 4294967296 (sumO a b) ∧ (sumO a b).length = a.length + 1 := by
 obtain ⟨i1, i2, i3, i4⟩ := sumSt_spec ha hb hl a.length (Nat.le_refl _)
 rw [List.take_length, List.take_of_length_le hl] at i1
 unfold sumO
 have hv : vAt a b a.length = 0 := by unfold vAt; rw [if_neg (by omega)]
 have hs : IntKind.u64.wrap ((sumSt a b a.length).2 + vAt a b a.length) = (sumSt a b a.length).2 := by rw [hv, Int.add_zero]; exact w64 (by omega) (by omega)
 simp only [sumSt, hs]
 have hm : (sumSt a b a.length).2 % 4294967296 = (sumSt a b a.length).2 := by omega
 rw [hm]
 refine ⟨?_, wf_append.2 ⟨i2, wf_one (by omega) (by omega)⟩, by simp [sumSt_len]⟩
 rw [bv_snoc, sumSt_len]
 exact i1
end Go.Proofs.YtlceokefdihdkaaGreatDoor
namespace Go.Proofs.YtlceokefdihdkaaGreatDoor
open Go.RowKit Go.Proofs.YtlceokefdihdkaaGreatDoorW.PrintWords Go.Proofs.YtlceokefdihdkaaGreatDoorW.PrintLast Go.Proofs.YtlceokefdihdkaaGreatDoorW.PrintMore
open X
set_option linter.unusedSimpArgs false
set_option linter.unusedVariables false
def madd (B w : Int) : Int → List Int → List Int → List Int
 | c, q, [] => match q with
  | [] => []
  | _ :: q => c :: q
 | c, [], _ :: _ => []
 | c, x :: q, y :: b => (x + w * y + c) % B :: madd B w ((x + w * y + c) / B) q b
theorem madd_nil (B w c z : Int) (q : List Int) : madd B w c (z :: q) [] = c :: q := by rw [madd]
theorem madd_cons (B w c x y : Int) (q b : List Int) : madd B w c (x :: q) (y :: b) = (x + w * y + c) % B :: madd B w ((x + w * y + c) / B) q b := by rw [madd]
theorem digit_bound {B x w y c : Int} (hB : 1 < B) (hx : 0 ≤ x ∧ x < B) (hw : 0 ≤ w ∧ w < B) (hy : 0 ≤ y ∧ y < B) (hc : 0 ≤ c ∧ c < B) : 0 ≤ w * y ∧ 0 ≤ x + w * y + c ∧ x + w * y + c < B * B := by
 have h1 := Int.mul_nonneg hw.1 hy.1
 have h2 : w * y ≤ (B - 1) * (B - 1) := Int.mul_le_mul (by omega) (by omega) hy.1 (by omega)
 have h3 : (B - 1) * (B - 1) = B * B - 2 * B + 1 := by
  rw [Int.sub_mul, Int.mul_sub, Int.mul_one, Int.one_mul]; omega
 exact ⟨h1, by omega, by omega⟩
theorem div_bound {B s : Int} (hB : 1 < B) (h0 : 0 ≤ s) (h1 : s < B * B) : 0 ≤ s / B ∧ s / B < B :=
 ⟨Int.ediv_nonneg h0 (by omega), Int.ediv_lt_of_lt_mul (by omega) h1⟩
theorem madd_spec {B w : Int} (hB : 1 < B) (hw : 0 ≤ w ∧ w < B) : ∀ (b q : List Int) (c : Int), wf B b → wf B q → 0 ≤ c ∧ c < B → b.length < q.length →
  bv B (madd B w c q b) + B ^ b.length * rd q b.length = bv B q + w * bv B b + c ∧ wf B (madd B w c q b) ∧ (madd B w c q b).length = q.length ∧ (madd B w c q b).drop (b.length + 1) = q.drop (b.length + 1)
 | [], z :: q, c, hb, hq, hc, hl => by
  have hz := wf_cons.1 hq
  rw [madd_nil]
  refine ⟨?_, wf_cons.2 ⟨hc, hz.2⟩, rfl, rfl⟩
  have : rd (z :: q) (([] : List Int).length : Int) = z := rfl
  rw [this]
  simp only [bv, List.length_nil, Int.pow_zero, Int.mul_zero]
  omega
 | [], [], c, hb, hq, hc, hl => by simp at hl
 | y :: b, [], c, hb, hq, hc, hl => by simp at hl
 | y :: b, x :: q, c, hb, hq, hc, hl => by
  have hy := wf_cons.1 hb
  have hx := wf_cons.1 hq
  obtain ⟨d0, d1, d2⟩ := digit_bound hB hx.1 hw hy.1 hc
  have d3 := div_bound hB d1 d2
  obtain ⟨i1, i2, i3, i4⟩ := madd_spec hB hw b q ((x + w * y + c) / B) hy.2 hx.2 d3 (by simpa using hl)
  rw [madd_cons]
  refine ⟨?_, wf_cons.2 ⟨⟨Int.emod_nonneg _ (by omega), Int.emod_lt_of_pos _ (by omega)⟩, i2⟩, by simp [i3], by simpa using i4⟩
  have e1 : rd (x :: q) ((y :: b).length : Int) = rd q (b.length : Int) := by
   rw [List.length_cons, rd_eq _ _ (by simpa using hl), rd_eq _ _ (by simpa using hl)]
   simp
  rw [e1, List.length_cons, Int.pow_succ]
  simp only [bv]
  have e2 : (x + w * y + c) % B + B * ((x + w * y + c) / B) = x + w * y + c := Int.emod_add_mul_ediv _ _
  have e3 : B ^ b.length * B * rd q (b.length : Int) = B * (B ^ b.length * rd q (b.length : Int)) := by rw [Int.mul_comm (B ^ b.length) B, Int.mul_assoc]
  have e4 : w * (y + B * bv B b) = w * y + B * (w * bv B b) := by rw [Int.mul_add, ← Int.mul_assoc, Int.mul_comm w B, Int.mul_assoc]
  rw [e3, e4]
  have e5 : B * bv B (madd B w ((x + w * y + c) / B) q b) + B * (B ^ b.length * rd q (b.length : Int)) = B * bv B q + B * (w * bv B b) + B * ((x + w * y + c) / B) := by
   rw [← Int.mul_add, i1, Int.mul_add, Int.mul_add]
  omega
def mulL (B : Int) (b : List Int) : List Int → List Int → List Int
 | [], q => q
 | w :: a, q => match madd B w 0 q b with
  | [] => []
  | z :: q' => z :: mulL B b a q'
def zer (q : List Int) : Prop := ∀ x, x ∈ q → x = 0
theorem mulL_spec {B : Int} (hB : 1 < B) {b : List Int} (hb : wf B b) : ∀ (a q : List Int), wf B a → wf B q → q.length = a.length + b.length → zer (q.drop b.length) →
  bv B (mulL B b a q) = bv B q + bv B a * bv B b ∧ wf B (mulL B b a q) ∧ (mulL B b a q).length = q.length
 | [], q, ha, hq, hl, hz => by
  unfold mulL
  exact ⟨by simp [bv], hq, rfl⟩
 | w :: a, q, ha, hq, hl, hz => by
  have hw := wf_cons.1 ha
  rw [List.length_cons] at hl
  have hbq : b.length < q.length := by omega
  obtain ⟨i1, i2, i3, i4⟩ := madd_spec hB hw.1 b q 0 hb hq ⟨by omega, by omega⟩ hbq
  have h0 : rd q b.length = 0 := by
   have := hz (rd q b.length) (by rw [drop_rd q b.length hbq]; exact List.mem_cons_self ..)
   exact this
  rw [h0, Int.mul_zero, Int.add_zero, Int.add_zero] at i1
  cases hm : madd B w 0 q b with
  | nil => rw [hm] at i3; simp at i3; omega
  | cons z q' =>
   rw [hm] at i1 i2 i3 i4
   have hz2 := wf_cons.1 i2
   have hlen : q'.length = a.length + b.length := by simp at i3; omega
   have hzz : zer (q'.drop b.length) := by
    intro x hx
    have : x ∈ q.drop (b.length + 1) := by rw [← i4]; simpa using hx
    have h2 : x ∈ q.drop b.length := by rw [drop_rd q b.length hbq]; exact List.mem_cons_of_mem _ this
    exact hz x h2
   obtain ⟨j1, j2, j3⟩ := mulL_spec hB hb a q' hw.2 hz2.2 hlen hzz
   have e : mulL B b (w :: a) q = z :: mulL B b a q' := by rw [mulL, hm]
   rw [e]
   refine ⟨?_, wf_cons.2 ⟨hz2.1, j2⟩, by simp [j3, hlen]; omega⟩
   simp only [bv] at i1 ⊢
   rw [j1, Int.mul_add, Int.add_mul, Int.mul_assoc]
   omega
theorem wrap_add (i m : Nat) (h : i + m < 4611686018427387904) : wrap64 ((i : Int) + (m : Int)) = ((i + m : Nat) : Int) := by unfold wrap64; omega
theorem bind_pair {α β : Type} (o : Option (α × β)) : (o.bind fun b => some (b.1, b.2)) = o := by cases o <;> rfl
theorem set_mid (p : List Int) (x y : Int) (q : List Int) (i : Nat) (h : i = p.length) : (p ++ x :: q).set i y = (p ++ [y]) ++ q := by
 subst h
 simp
theorem rstep {x ra rb c : Int} (hx : 0 ≤ x ∧ x < 10000) (hra : 0 ≤ ra ∧ ra < 10000) (hrb : 0 ≤ rb ∧ rb < 10000) (hc : 0 ≤ c ∧ c < 10000) :
  wrap64 (ra * rb) = ra * rb ∧ wrap64 (x + ra * rb) = x + ra * rb ∧ wrap64 (x + ra * rb + c) = x + ra * rb + c ∧ Int.tmod (x + ra * rb + c) 10000 = (x + ra * rb + c) % 10000 ∧
   Int.tdiv (x + ra * rb + c) 10000 = (x + ra * rb + c) / 10000 ∧ wrap64 ((x + ra * rb + c) / 10000) = (x + ra * rb + c) / 10000 ∧ (0 ≤ (x + ra * rb + c) / 10000 ∧ (x + ra * rb + c) / 10000 < 10000) := by
 obtain ⟨d0, d1, d2⟩ := digit_bound (by decide) hx hra hrb hc
 have d3 := div_bound (by decide) d1 d2
 generalize ra * rb = p at *
 refine ⟨wrap_id (by omega) (by omega), wrap_id (by omega) (by omega), wrap_id (by omega) (by omega), tmod_pos d1, tdiv_pos d1, wrap_id (by omega) (by omega), d3⟩
theorem xstep {x ra rb c : Int} (hx : 0 ≤ x ∧ x < 4294967296) (hra : 0 ≤ ra ∧ ra < 4294967296) (hrb : 0 ≤ rb ∧ rb < 4294967296) (hc : 0 ≤ c ∧ c < 4294967296) :
  IntKind.u64.wrap (ra * rb) = ra * rb ∧ IntKind.u64.wrap (ra * rb + x) = ra * rb + x ∧ IntKind.u64.wrap (ra * rb + x + c) = x + ra * rb + c ∧ (0 ≤ (x + ra * rb + c) / 4294967296 ∧ (x + ra * rb + c) / 4294967296 < 4294967296) := by
 obtain ⟨d0, d1, d2⟩ := digit_bound (by decide) hx hra hrb hc
 have d3 := div_bound (by decide) d1 d2
 generalize ra * rb = p at *
 refine ⟨w64 (by omega) (by omega), w64 (by omega) (by omega), (w64 (by omega) (by omega)).trans (by omega), d3⟩
theorem rmul_l1 {a b : List Int} {an bn : Bool} (ha : wf 10000 a) (hb : wf 10000 b) (hla : a.length ≤ 1000000) (hlb : b.length ≤ 1000000) {i : Nat} (hi : i < a.length) {r : Bool × List Int} : ∀ (n m : Nat) (P q : List Int) (c : Int), m + n = b.length → P.length = i + m → wf 10000 q → n < q.length → 0 ≤ c ∧ c < 10000 →
  Ev (fun k => worldmintref05_Mul.l0 k (P ++ madd 10000 (rd a i) c q (b.drop m)) ((i + 1 : Nat) : Int) an a bn b) r → Ev (fun k => worldmintref05_Mul.l1 k (P ++ q) (i : Int) c (m : Int) an a bn b) r := by
 intro n
 induction n with
 | zero =>
  intro m P q c hm hP hq hl hc hr
  rw [List.drop_eq_nil_of_le (by omega)] at hr
  cases q with
  | nil => simp at hl
  | cons z q =>
   rw [madd_nil] at hr
   refine Ev.up (hr.of fun k => ?_)
   simp only [worldmintref05_Mul.l1]
   have hw : wrap64 ((i : Int) + (b.length : Int)) = ((P.length : Nat) : Int) := by rw [wrap_add _ _ (by omega), hP]; congr 1; omega
   rw [if_neg (by omega), hw, if_pos (by omega), if_pos (by simp; omega), Int.toNat_natCast, set_mid P z c q _ rfl, wrap_succ i (by omega), List.append_assoc]
   rfl
 | succ n ih =>
  intro m P q c hm hP hq hl hc hr
  cases q with
  | nil => simp at hl
  | cons x q =>
   have hx := wf_cons.1 hq
   have hmb : m < b.length := by omega
   have hra := rd_wf ha (i := (i : Int)) (by omega) (by omega)
   have hrb := rd_wf hb (i := (m : Int)) (by omega) (by omega)
   obtain ⟨s1, s2, s3, s4, s5, s6, s7⟩ := rstep hx.1 hra hrb hc
   rw [drop_rd b m hmb, madd_cons] at hr
   have e : P ++ (x + rd a i * rd b m + c) % 10000 :: madd 10000 (rd a i) ((x + rd a i * rd b m + c) / 10000) q (b.drop (m + 1)) = (P ++ [(x + rd a i * rd b m + c) % 10000]) ++ madd 10000 (rd a i) ((x + rd a i * rd b m + c) / 10000) q (b.drop (m + 1)) := by simp
   rw [e] at hr
   have c1 : (m : Int) < (b.length : Int) := Int.ofNat_lt.2 hmb
   have c2 : ((P.length : Nat) : Int) < ((P ++ x :: q).length : Int) := by rw [List.length_append, List.length_cons]; exact Int.ofNat_lt.2 (by omega)
   have c3 : (i : Int) < (a.length : Int) := Int.ofNat_lt.2 hi
   have c0 : ∀ n : Nat, (0 : Int) ≤ (n : Int) := fun n => Int.natCast_nonneg n
   have hw : wrap64 ((i : Int) + (m : Int)) = ((P.length : Nat) : Int) := by rw [wrap_add _ _ (by omega), hP]
   have hws := wrap_succ m (by omega)
   have := ih (m + 1) (P ++ [(x + rd a i * rd b m + c) % 10000]) q ((x + rd a i * rd b m + c) / 10000) (by omega) (by rw [List.length_append, List.length_singleton]; omega) hx.2 (by simpa using hl) s7 hr
   refine Ev.up (this.of fun k => ?_)
   simp only [worldmintref05_Mul.l1]
   rw [if_pos c1, hw, if_pos (c0 _), if_pos c2, if_pos (c0 _), if_pos c3, if_pos (c0 _), rd_mid P x q _ rfl, Int.toNat_natCast, set_mid P x _ q _ rfl, s1, s2, s3, s4, s5, s6, hws]
theorem rmul_l0 {a b : List Int} {an bn : Bool} (ha : wf 10000 a) (hb : wf 10000 b) (hla : a.length ≤ 1000000) (hlb : b.length ≤ 1000000) : ∀ (n i : Nat) (P q : List Int), i + n = a.length → P.length = i → wf 10000 q → q.length = n + b.length → zer (q.drop b.length) →
  Ev (fun k => worldmintref05_Mul.l0 k (P ++ q) (i : Int) an a bn b) ((!(an == bn)) && decide (0 < (nml (P ++ mulL 10000 b (a.drop i) q)).length), nml (P ++ mulL 10000 b (a.drop i) q)) := by
 intro n
 induction n with
 | zero =>
  intro i P q hi hP hq hl hz
  rw [List.drop_eq_nil_of_le (by omega), mulL]
  refine Ev.up ((rnormal_ev (!(an == bn)) (l := P ++ q) (by simp; omega)).of fun k => ?_)
  simp only [worldmintref05_Mul.l0]
  rw [if_neg (by omega), bind_pair]
 | succ n ih =>
  intro i P q hi hP hq hl hz
  have hia : i < a.length := by omega
  have hra := rd_wf ha (i := (i : Int)) (by omega) (by omega)
  have hbq : b.length < q.length := by omega
  obtain ⟨i1, i2, i3, i4⟩ := madd_spec (by decide) hra b q 0 hb hq ⟨by omega, by omega⟩ hbq
  rw [drop_rd a i hia, mulL]
  cases hm : madd 10000 (rd a i) 0 q b with
  | nil => rw [hm] at i3; simp at i3; omega
  | cons z q' =>
   rw [hm] at i2 i3 i4
   have hz2 := wf_cons.1 i2
   have hlen : q'.length = n + b.length := by simp at i3; omega
   have hzz : zer (q'.drop b.length) := by
    intro x hx
    have : x ∈ q.drop (b.length + 1) := by rw [← i4]; simpa using hx
    have h2 : x ∈ q.drop b.length := by rw [drop_rd q b.length hbq]; exact List.mem_cons_of_mem _ this
    exact hz x h2
   have := ih (i + 1) (P ++ [z]) q' (by omega) (by simp; omega) hz2.2 hlen hzz
   have e1 : (P ++ [z]) ++ q' = P ++ z :: q' := by simp
   have e2 : ∀ t : List Int, (P ++ [z]) ++ t = P ++ z :: t := fun t => by simp
   rw [e1, e2] at this
   have h1 := rmul_l1 (an := an) (bn := bn) ha hb hla hlb hia b.length 0 P q 0 (by omega) (by omega) hq hbq ⟨by omega, by omega⟩ (by rw [List.drop_zero, hm]; exact this)
   refine Ev.up (h1.of fun k => ?_)
   simp only [worldmintref05_Mul.l0]
   rw [if_pos (by omega)]
   rfl
theorem zer_rep (n m : Nat) : zer ((List.replicate n (0 : Int)).drop m) := fun x hx => List.eq_of_mem_replicate (List.mem_of_mem_drop hx)
theorem xmul_l1 {a b : List Int} (ha : wf 4294967296 a) (hb : wf 4294967296 b) (hla : a.length ≤ 1000000) (hlb : b.length ≤ 1000000) {i : Nat} (hi : i < a.length) {r : List Int} : ∀ (n m : Nat) (P q : List Int) (c : Int), m + n = b.length → P.length = i + m → wf 4294967296 q → n < q.length → 0 ≤ c ∧ c < 4294967296 →
  Ev (fun k => wide_times.l0 k b (P ++ madd 4294967296 (rd a i) c q (b.drop m)) a (a.length : Int) ((i + 1 : Nat) : Int)) r → Ev (fun k => wide_times.l1 k b (P ++ q) (i : Int) (rd a i) c a (a.length : Int) (i : Int) b (b.length : Int) (m : Int)) r := by
 intro n
 induction n with
 | zero =>
  intro m P q c hm hP hq hl hc hr
  rw [List.drop_eq_nil_of_le (by omega)] at hr
  cases q with
  | nil => simp at hl
  | cons z q =>
   rw [madd_nil] at hr
   refine Ev.up (hr.of fun k => ?_)
   simp only [wide_times.l1]
   have hw : wrap64 ((i : Int) + (b.length : Int)) = ((P.length : Nat) : Int) := by rw [wrap_add _ _ (by omega), hP]; congr 1; omega
   rw [if_neg (by omega), hw, if_pos (by omega), if_pos (by simp; omega), Int.toNat_natCast, set_mid P z _ q _ rfl, wrap_succ i (by omega), List.append_assoc, show c % 4294967296 = c by omega]
   rfl
 | succ n ih =>
  intro m P q c hm hP hq hl hc hr
  cases q with
  | nil => simp at hl
  | cons x q =>
   have hx := wf_cons.1 hq
   have hmb : m < b.length := by omega
   have hra := rd_wf ha (i := (i : Int)) (by omega) (by omega)
   have hrb := rd_wf hb (i := (m : Int)) (by omega) (by omega)
   obtain ⟨s1, s2, s3, s7⟩ := xstep hx.1 hra hrb hc
   rw [drop_rd b m hmb, madd_cons] at hr
   have e : P ++ (x + rd a i * rd b m + c) % 4294967296 :: madd 4294967296 (rd a i) ((x + rd a i * rd b m + c) / 4294967296) q (b.drop (m + 1)) = (P ++ [(x + rd a i * rd b m + c) % 4294967296]) ++ madd 4294967296 (rd a i) ((x + rd a i * rd b m + c) / 4294967296) q (b.drop (m + 1)) := by simp
   rw [e] at hr
   have c1 : (m : Int) < (b.length : Int) := Int.ofNat_lt.2 hmb
   have c2 : ((P.length : Nat) : Int) < ((P ++ x :: q).length : Int) := by rw [List.length_append, List.length_cons]; exact Int.ofNat_lt.2 (by omega)
   have c0 : ∀ n : Nat, (0 : Int) ≤ (n : Int) := fun n => Int.natCast_nonneg n
   have hw : wrap64 ((i : Int) + (m : Int)) = ((P.length : Nat) : Int) := by rw [wrap_add _ _ (by omega), hP]
   have hws := wrap_succ m (by omega)
   have u1 := w64 (n := rd a i) hra.1 (by omega)
   have u2 := w64 (n := rd b m) hrb.1 (by omega)
   have u3 := w64 (n := x) hx.1.1 (by omega)
   have := ih (m + 1) (P ++ [(x + rd a i * rd b m + c) % 4294967296]) q ((x + rd a i * rd b m + c) / 4294967296) (by omega) (by rw [List.length_append, List.length_singleton]; omega) hx.2 (by simpa using hl) s7 hr
   refine Ev.up (this.of fun k => ?_)
   simp only [wide_times.l1]
   rw [if_pos c1, if_pos (c0 _), if_pos c1, hw, if_pos (c0 _), if_pos c2, rd_mid P x q _ rfl, Int.toNat_natCast, set_mid P x _ q _ rfl, u1, u2, u3, s1, s2, s3, hws]
theorem xmul_l0 {a b : List Int} (ha : wf 4294967296 a) (hb : wf 4294967296 b) (hla : a.length ≤ 1000000) (hlb : b.length ≤ 1000000) : ∀ (n i : Nat) (P q : List Int), i + n = a.length → P.length = i → wf 4294967296 q → q.length = n + b.length → zer (q.drop b.length) →
  Ev (fun k => wide_times.l0 k b (P ++ q) a (a.length : Int) (i : Int)) (P ++ mulL 4294967296 b (a.drop i) q) := by
 intro n
 induction n with
 | zero =>
  intro i P q hi hP hq hl hz
  rw [List.drop_eq_nil_of_le (by omega), mulL]
  refine Ev.up ((Ev.ok _).of fun k => ?_)
  simp only [wide_times.l0]
  rw [if_neg (by omega)]
 | succ n ih =>
  intro i P q hi hP hq hl hz
  have hia : i < a.length := by omega
  have hra := rd_wf ha (i := (i : Int)) (by omega) (by omega)
  have hbq : b.length < q.length := by omega
  obtain ⟨i1, i2, i3, i4⟩ := madd_spec (by decide) hra b q 0 hb hq ⟨by omega, by omega⟩ hbq
  rw [drop_rd a i hia, mulL]
  cases hm : madd 4294967296 (rd a i) 0 q b with
  | nil => rw [hm] at i3; simp at i3; omega
  | cons z q' =>
   rw [hm] at i2 i3 i4
   have hz2 := wf_cons.1 i2
   have hlen : q'.length = n + b.length := by simp at i3; omega
   have hzz : zer (q'.drop b.length) := by
    intro x hx
    have : x ∈ q.drop (b.length + 1) := by rw [← i4]; simpa using hx
    have h2 : x ∈ q.drop b.length := by rw [drop_rd q b.length hbq]; exact List.mem_cons_of_mem _ this
    exact hz x h2
   have := ih (i + 1) (P ++ [z]) q' (by omega) (by simp; omega) hz2.2 hlen hzz
   have e2 : ∀ t : List Int, (P ++ [z]) ++ t = P ++ z :: t := fun t => by simp
   rw [e2, e2] at this
   have h1 := xmul_l1 ha hb hla hlb hia b.length 0 P q 0 (by omega) (by omega) hq hbq ⟨by omega, by omega⟩ (by rw [List.drop_zero, hm]; exact this)
   refine Ev.up (h1.of fun k => ?_)
   simp only [wide_times.l0]
   rw [if_pos (by omega), if_pos (by omega), if_pos (by omega)]
   rfl
theorem xtimes_ev {a b : List Int} (ha : wf 4294967296 a) (hb : wf 4294967296 b) (hla : a.length ≤ 1000000) (hlb : b.length ≤ 1000000) :
  ∃ d, Ev (fun k => wide_times.f k a b) d ∧ bv 4294967296 d = bv 4294967296 a * bv 4294967296 b ∧ wf 4294967296 d ∧ d.length = a.length + b.length := by
 have hq := wf_rep (B := 4294967296) (by decide) (a.length + b.length)
 have hl : (List.replicate (a.length + b.length) (0 : Int)).length = a.length + b.length := by simp
 obtain ⟨j1, j2, j3⟩ := mulL_spec (by decide) hb a _ ha hq hl (zer_rep _ _)
 refine ⟨mulL 4294967296 b a (List.replicate (a.length + b.length) 0), ?_, ?_, j2, by rw [j3, hl]⟩
 ·have := xmul_l0 ha hb hla hlb a.length 0 [] _ (by omega) rfl hq hl (zer_rep _ _)
  refine this.of fun k => ?_
  unfold wide_times.f
  have hw : wrap64 ((a.length : Int) + (b.length : Int)) = ((a.length + b.length : Nat) : Int) := by unfold wrap64; omega
  rw [hw, if_pos (by omega), if_pos (by omega), Int.toNat_natCast]
  rfl
 ·rw [j1, bv_rep]; simp
end Go.Proofs.YtlceokefdihdkaaGreatDoor
namespace Go.Proofs.YtlceokefdihdkaaGreatDoor
open Go.RowKit Go.Proofs.YtlceokefdihdkaaGreatDoorW.PrintWords Go.Proofs.YtlceokefdihdkaaGreatDoorW.PrintLast Go.Proofs.YtlceokefdihdkaaGreatDoorW.PrintMore
open X
set_option linter.unusedSimpArgs false
set_option linter.unusedVariables false
structure RI (B : Int) (L : Nat) (neg : Bool) (D : List Int) (z : Int) : Prop where
 wf : wf B D
 nrm : nrm D
 len : D.length ≤ L
 sg : neg = true → D ≠ []
 val : z = if neg then -(bv B D) else bv B D
namespace RI
variable {B : Int} {L M : Nat} {neg neg' : Bool} {D D' : List Int} {z z' : Int}
theorem mono (h : RI B L neg D z) (hl : L ≤ M) : RI B M neg D z := ⟨h.wf, h.nrm, Nat.le_trans h.len hl, h.sg, h.val⟩
theorem zero (B : Int) (L : Nat) : RI B L false [] 0 := ⟨wf_nil _, nrm_nil, by simp, by simp, by simp [bv]⟩
theorem mk' (s : Bool) (hB : 0 < B) (hw : Go.Proofs.YtlceokefdihdkaaGreatDoor.wf B D) (hn : Go.Proofs.YtlceokefdihdkaaGreatDoor.nrm D) (hl : D.length ≤ L) : RI B L (s && decide (0 < D.length)) D (if s then -(bv B D) else bv B D) := by
 refine ⟨hw, hn, hl, ?_, ?_⟩
 ·intro h he; subst he; simp at h
 ·cases s with
  | false => simp
  | true =>
   by_cases h0 : D = []
   ·subst h0; simp [bv]
   ·have : 0 < D.length := List.length_pos_iff.2 h0
    simp [this]
theorem neg_iff (h : RI B L neg D z) (hB : 0 < B) : neg = true ↔ z < 0 := by
 have h0 := bv_nonneg (Int.le_of_lt hB) h.wf
 have hv := h.val
 constructor
 ·intro hn
  have := bv_pos hB h.wf h.nrm (h.sg hn)
  rw [hn] at hv
  simp at hv
  omega
 ·intro hz
  cases neg with
  | true => rfl
  | false => simp at hv; omega
theorem abs (h : RI B L neg D z) (hB : 0 < B) : bv B D = if z < 0 then -z else z := by
 have h0 := bv_nonneg (Int.le_of_lt hB) h.wf
 have hi := h.neg_iff hB
 have hv := h.val
 cases neg with
 | true => rw [if_pos (hi.1 rfl)]; simp at hv; omega
 | false =>
  have : ¬ z < 0 := fun hz => by simpa using hi.2 hz
  rw [if_neg this]; simp at hv; omega
theorem nil_iff (h : RI B L neg D z) (hB : 0 < B) : D = [] ↔ z = 0 := by
 rw [← bv_zero hB h.wf h.nrm, h.abs hB]
 split <;> omega
theorem inj (h : RI B L neg D z) (h' : RI B M neg' D' z) (hB : 1 < B) : neg = neg' ∧ D = D' := by
 refine ⟨?_, bv_inj hB h.wf h'.wf h.nrm h'.nrm (by rw [h.abs (by omega), h'.abs (by omega)])⟩
 rw [Bool.eq_iff_iff, h.neg_iff (by omega), h'.neg_iff (by omega)]
end RI
theorem nml_RI (B : Int) (hB : 0 < B) (s : Bool) {l : List Int} {L : Nat} (hw : wf B l) (hl : l.length ≤ L) : RI B L (s && decide (0 < (nml l).length)) (nml l) (if s then -(bv B l) else bv B l) := by
 have := RI.mk' s hB (nml_wf hw) (nml_nrm l) (Nat.le_trans (nml_len l) hl)
 rw [nml_bv] at this
 exact this
def GivesR (f : Nat → Option (Bool × List Int)) (L : Nat) (z : Int) : Prop := ∃ n D, Ev f (n, D) ∧ RI 10000 L n D z
theorem of_go (neg : Bool) (m : Nat) : ∀ (n : Int) (acc : List Int), acc.length + m ≤ 1000 → -(10000 ^ m : Int) < n → n < 10000 ^ m → -9223372036854775808 ≤ n → n < 9223372036854775808 →
  ∃ ds, Ev (fun k => worldmintref05_Of.l0 k n acc neg) (neg && decide (0 < (nml (acc ++ ds)).length), nml (acc ++ ds)) ∧ bv 10000 ds = (if n < 0 then -n else n) ∧ wf 10000 ds ∧ ds.length ≤ m := by
 have fin : ∀ acc : List Int, acc.length ≤ 1000 → Ev (fun k => worldmintref05_Of.l0 k 0 acc neg) (neg && decide (0 < (nml (acc ++ [])).length), nml (acc ++ [])) := by
  intro acc hl
  rw [List.append_nil]
  refine Ev.up ((rnormal_ev neg (l := acc) (by omega)).of fun k => ?_)
  simp only [worldmintref05_Of.l0]
  rw [if_pos trivial, bind_pair]
 induction m with
 | zero =>
  intro n acc hl h0 h1 _ _
  have : n = 0 := by simp at h0 h1; omega
  subst this
  exact ⟨[], fin acc (by omega), by simp [bv], wf_nil _, by simp⟩
 | succ m ih =>
  intro n acc hl h0 h1 h2 h3
  by_cases hn : n = 0
  ·subst hn
   exact ⟨[], fin acc (by omega), by simp [bv], wf_nil _, by simp⟩
  ·rw [Int.pow_succ] at h0 h1
   have hp : (0 : Int) < 10000 ^ m := Int.pow_pos (by decide)
   generalize hP : (10000 : Int) ^ m = P at *
   by_cases hneg : n < 0
   ·
    obtain ⟨a, rfl⟩ : ∃ a : Int, n = -a := ⟨-n, by omega⟩
    have ht : Int.tmod (-a) 10000 = -(a % 10000) := by rw [Int.neg_tmod, tmod_pos (by omega)]
    have hd : Int.tdiv (-a) 10000 = -(a / 10000) := by rw [Int.neg_tdiv, tdiv_pos (by omega)]
    obtain ⟨ds, e, e1, e2, e3⟩ := ih (-(a / 10000)) (acc ++ [a % 10000]) (by simp; omega) (by omega) (by omega) (by omega) (by omega)
    refine ⟨a % 10000 :: ds, ?_, ?_, wf_cons.2 ⟨by omega, e2⟩, by simp; omega⟩
    ·rw [List.append_assoc] at e
     refine Ev.up (e.of fun k => ?_)
     simp only [worldmintref05_Of.l0]
     rw [if_neg hn, ht, hd, show wrap64 (-(a / 10000)) = -(a / 10000) from wrap_id (by omega) (by omega)]
     by_cases hz : a % 10000 = 0
     ·rw [if_neg (by omega), if_pos (by omega), hz]; rfl
     ·rw [if_pos (by omega), if_pos (by omega), show wrap64 (-(-(a % 10000))) = a % 10000 from (wrap_id (by omega) (by omega)).trans (by omega)]
    ·simp only [bv]
     rw [e1, if_pos hneg]
     split <;> omega
   ·have ht : Int.tmod n 10000 = n % 10000 := tmod_pos (by omega)
    have hd : Int.tdiv n 10000 = n / 10000 := tdiv_pos (by omega)
    obtain ⟨ds, e, e1, e2, e3⟩ := ih (n / 10000) (acc ++ [n % 10000]) (by simp; omega) (by omega) (by omega) (by omega) (by omega)
    refine ⟨n % 10000 :: ds, ?_, ?_, wf_cons.2 ⟨by omega, e2⟩, by simp; omega⟩
    ·rw [List.append_assoc] at e
     refine Ev.up (e.of fun k => ?_)
     simp only [worldmintref05_Of.l0]
     rw [if_neg hn, ht, hd, show wrap64 (n / 10000) = n / 10000 from wrap_id (by omega) (by omega), if_neg (by omega), if_pos (by omega)]
    ·simp only [bv]
     rw [e1, if_neg hneg]
     split <;> omega
theorem of_gives {n : Int} (m : Nat) (hm : m ≤ 1000) (h0 : -(10000 ^ m : Int) < n) (h1 : n < 10000 ^ m) (h2 : -9223372036854775808 ≤ n) (h3 : n < 9223372036854775808) : GivesR (fun k => worldmintref05_Of.f k n) m n := by
 obtain ⟨ds, e, e1, e2, e3⟩ := of_go (decide (n < 0)) m n [] (by simp; omega) h0 h1 h2 h3
 rw [List.nil_append] at e
 refine ⟨_, _, e, ?_⟩
 have := nml_RI 10000 (by decide) (decide (n < 0)) e2 e3
 rw [e1] at this
 have hv : (if decide (n < 0) = true then -(if n < 0 then -n else n) else (if n < 0 then -n else n)) = n := by
  by_cases h : n < 0 <;> simp [h]
 rw [hv] at this
 exact this
theorem of_small {n : Int} (h2 : -10000 < n) (h3 : n < 10000) : GivesR (fun k => worldmintref05_Of.f k n) 1 n :=
 of_gives 1 (by decide) (by simpa using h2) (by simpa using h3) (by omega) (by omega)
variable {L M : Nat} {an bn : Bool} {a b : List Int} {x y : Int}
theorem rmul_gives (ha : RI 10000 L an a x) (hb : RI 10000 M bn b y) (hL : L ≤ 1000000) (hM : M ≤ 1000000) : GivesR (fun k => worldmintref05_Mul.f k an a bn b) (L + M) (x * y) := by
 have hla := ha.len
 have hlb := hb.len
 have hq := wf_rep (B := 10000) (by decide) (a.length + b.length)
 obtain ⟨j1, j2, j3⟩ := mulL_spec (by decide) hb.wf a _ ha.wf hq (by simp) (zer_rep _ _)
 have hev := rmul_l0 (an := an) (bn := bn) ha.wf hb.wf (by omega) (by omega) a.length 0 [] _ (by omega) rfl hq (by simp) (zer_rep _ _)
 rw [List.drop_zero, List.nil_append, List.nil_append] at hev
 refine ⟨_, _, hev.of fun k => ?_, ?_⟩
 ·unfold worldmintref05_Mul.f
  have hw : wrap64 ((a.length : Int) + (b.length : Int)) = ((a.length + b.length : Nat) : Int) := by unfold wrap64; omega
  rw [hw, if_pos (by omega), if_pos (by omega), Int.toNat_natCast]
  rfl
 ·have := nml_RI 10000 (by decide) (!(an == bn)) j2 (L := L + M) (by rw [j3]; simp; omega)
  rw [j1, bv_rep, Int.zero_add] at this
  have hv : (if (!(an == bn)) = true then -(bv 10000 a * bv 10000 b) else bv 10000 a * bv 10000 b) = x * y := by
   rw [ha.val, hb.val]
   cases an <;> cases bn <;> simp [Int.neg_mul, Int.mul_neg]
  rw [hv] at this
  exact this
theorem radd_gives (ha : RI 10000 L an a x) (hb : RI 10000 L bn b y) (hL : L < 1000000) : GivesR (fun k => worldmintref05_Add.f k an a bn b) (L + 1) (x + y) := by
 have hla := ha.len
 have hlb := hb.len
 by_cases hs : an = bn
 ·subst hs
  obtain ⟨p1, p2, p3⟩ := plusL_spec a b 0 ha.wf hb.wf (by omega) (by omega)
  refine ⟨an && decide (0 < (nml (plusL 0 a b)).length), nml (plusL 0 a b), ?_, ?_⟩
  ·obtain ⟨k1, h1⟩ := plus_ev ha.wf hb.wf (by omega) (by omega)
   obtain ⟨k2, h2⟩ := rnormal_ev an (l := plusL 0 a b) (by omega)
   dsimp only at h1 h2
   refine ⟨max k1 k2, fun k hk => ?_⟩
   show worldmintref05_Add.f k an a an b = _
   unfold worldmintref05_Add.f
   rw [if_pos (by simp), h1 k (by omega)]
   simp only [Option.bind_some]
   rw [bind_pair, h2 k (by omega)]
  ·have := nml_RI 10000 (by decide) an p2 (L := L + 1) (by omega)
   rw [p1, Int.add_zero] at this
   have hv : (if an = true then -(bv 10000 a + bv 10000 b) else bv 10000 a + bv 10000 b) = x + y := by
    rw [ha.val, hb.val]
    cases an <;> simp <;> omega
   rw [hv] at this
   exact this
 ·have hcmp := rcompared_ev (by decide) ha.wf hb.wf ha.nrm hb.nrm (by omega)
  have hse : ((an == bn) = true) = False := by simp [hs]
  by_cases hlt : bv 10000 a < bv 10000 b
  ·have hbl : a.length ≤ b.length := by
    rcases Nat.lt_or_ge b.length a.length with h | h
    ·have := bv_len_lt (by decide : (1 : Int) < 10000) hb.wf ha.wf ha.nrm h; omega
    ·exact h
   obtain ⟨p1, p2, p3⟩ := minusL_spec b a 0 hb.wf ha.wf (by omega) (by omega) hbl (by omega)
   refine ⟨bn && decide (0 < (nml (minusL 0 b a)).length), nml (minusL 0 b a), ?_, ?_⟩
   ·obtain ⟨k1, h1⟩ := minus_ev hb.wf ha.wf (by omega)
    obtain ⟨k2, h2⟩ := rnormal_ev bn (l := minusL 0 b a) (by omega)
    obtain ⟨k3, h3⟩ := hcmp
    dsimp only at h1 h2 h3
    refine ⟨max (max k1 k2) k3, fun k hk => ?_⟩
    show worldmintref05_Add.f k an a bn b = _
    unfold worldmintref05_Add.f
    simp only [hse, if_false]
    rw [h3 k (by omega)]
    simp only [Option.bind_some]
    rw [if_pos (by rw [cmpI_lt hlt]; decide), h1 k (by omega)]
    simp only [Option.bind_some]
    rw [bind_pair, h2 k (by omega)]
   ·have := nml_RI 10000 (by decide) bn p2 (L := L + 1) (by omega)
    rw [p1, Int.sub_zero] at this
    have hv : (if bn = true then -(bv 10000 b - bv 10000 a) else bv 10000 b - bv 10000 a) = x + y := by
     rw [ha.val, hb.val]
     cases an <;> cases bn <;> simp at hs ⊢ <;> omega
    rw [hv] at this
    exact this
  ·have hbl : b.length ≤ a.length := by
    rcases Nat.lt_or_ge a.length b.length with h | h
    ·have := bv_len_lt (by decide : (1 : Int) < 10000) ha.wf hb.wf hb.nrm h; omega
    ·exact h
   obtain ⟨p1, p2, p3⟩ := minusL_spec a b 0 ha.wf hb.wf (by omega) (by omega) hbl (by omega)
   have hcn : ¬ cmpI (bv 10000 a) (bv 10000 b) < 0 := by unfold cmpI; split <;> (try split) <;> omega
   refine ⟨an && decide (0 < (nml (minusL 0 a b)).length), nml (minusL 0 a b), ?_, ?_⟩
   ·obtain ⟨k1, h1⟩ := minus_ev ha.wf hb.wf (by omega)
    obtain ⟨k2, h2⟩ := rnormal_ev an (l := minusL 0 a b) (by omega)
    obtain ⟨k3, h3⟩ := hcmp
    dsimp only at h1 h2 h3
    refine ⟨max (max k1 k2) k3, fun k hk => ?_⟩
    show worldmintref05_Add.f k an a bn b = _
    unfold worldmintref05_Add.f
    simp only [hse, if_false]
    rw [h3 k (by omega)]
    simp only [Option.bind_some]
    rw [if_neg hcn, h1 k (by omega)]
    simp only [Option.bind_some]
    rw [bind_pair, h2 k (by omega)]
   ·have := nml_RI 10000 (by decide) an p2 (L := L + 1) (by omega)
    rw [p1, Int.sub_zero] at this
    have hv : (if an = true then -(bv 10000 a - bv 10000 b) else bv 10000 a - bv 10000 b) = x + y := by
     rw [ha.val, hb.val]
     cases an <;> cases bn <;> simp at hs ⊢ <;> omega
    rw [hv] at this
    exact this
theorem rneg_gives (ha : RI 10000 L an a x) (hL : L < 1000000) : GivesR (fun k => worldmintref05_Neg.f k an a) L (-x) := by
 have hla := ha.len
 refine ⟨_, _, (rnormal_ev (!an) (l := a) (by omega)).of fun k => ?_, ?_⟩
 ·unfold worldmintref05_Neg.f; rw [bind_pair]
 ·have := nml_RI 10000 (by decide) (!an) ha.wf hla
  have hv : (if (!an) = true then -(bv 10000 a) else bv 10000 a) = -x := by
   rw [ha.val]; cases an <;> simp
  rw [hv] at this
  exact this
theorem rcompare_ev (ha : RI 10000 L an a x) (hb : RI 10000 M bn b y) (hL : L < 1000000) (hM : M < 1000000) : Ev (fun k => worldmintref05_Compare.f k an a bn b) (cmpI x y) := by
 have hla := ha.len
 have hlb := hb.len
 have h1 := rcompared_ev (by decide) ha.wf hb.wf ha.nrm hb.nrm (by omega)
 have h2 := rcompared_ev (by decide) hb.wf ha.wf hb.nrm ha.nrm (by omega)
 have n1 := ha.neg_iff (by decide)
 have n2 := hb.neg_iff (by decide)
 have e1 := ha.abs (by decide)
 have e2 := hb.abs (by decide)
 cases an <;> cases bn
 ·have hx : ¬ x < 0 := fun h => by simpa using n1.2 h
  have hy : ¬ y < 0 := fun h => by simpa using n2.2 h
  rw [e1, e2, if_neg hx, if_neg hy] at h1
  refine h1.of fun k => ?_
  unfold worldmintref05_Compare.f
  simp
 ·have hx : ¬ x < 0 := fun h => by simpa using n1.2 h
  have hy : y < 0 := n2.1 rfl
  rw [cmpI_gt (by omega)]
  exact Ev.of_eq fun k => by unfold worldmintref05_Compare.f; simp
 ·have hx : x < 0 := n1.1 rfl
  have hy : ¬ y < 0 := fun h => by simpa using n2.2 h
  rw [cmpI_lt (by omega)]
  exact Ev.of_eq fun k => by unfold worldmintref05_Compare.f; simp
 ·have hx : x < 0 := n1.1 rfl
  have hy : y < 0 := n2.1 rfl
  rw [e1, e2, if_pos hx, if_pos hy] at h2
  have : cmpI (-y) (-x) = cmpI x y := by unfold cmpI; (repeat' split) <;> omega
  rw [this] at h2
  refine h2.of fun k => ?_
  unfold worldmintref05_Compare.f
  simp
end Go.Proofs.YtlceokefdihdkaaGreatDoor
namespace Go.Proofs.YtlceokefdihdkaaGreatDoor
open Go.RowKit Go.Proofs.YtlceokefdihdkaaGreatDoorW.PrintWords Go.Proofs.YtlceokefdihdkaaGreatDoorW.PrintLast Go.Proofs.YtlceokefdihdkaaGreatDoorW.PrintMore
open X
set_option linter.unusedSimpArgs false
set_option linter.unusedVariables false
def lim : Int := 4294967296 ^ 512
theorem lim_len {l : List Int} (h : wf 4294967296 l) (hn : nrm l) : bv 4294967296 l < lim ↔ l.length ≤ 512 := by
 constructor
 ·intro hl; exact len_of_lt (by decide) h hn hl
 ·intro hl
  have h1 := bv_lt (by decide) h
  have h2 : (4294967296 : Int) ^ l.length ≤ lim := by
   unfold lim
   obtain ⟨d, hd⟩ : ∃ d, 512 = l.length + d := ⟨512 - l.length, by omega⟩
   rw [hd, Int.pow_add]
   have h4 : (0 : Int) ≤ 4294967296 ^ l.length := Int.le_of_lt (Int.pow_pos (by decide))
   have h5 : (1 : Int) ≤ 4294967296 ^ d := Int.pow_pos (by decide)
   have := Int.mul_le_mul_of_nonneg_left h5 h4
   omega
  omega
theorem signed_ok (s : Bool) {l : List Int} (hw : wf 4294967296 l) (hl : l.length ≤ 1000000) (h : bv 4294967296 l < lim) :
  Ev (fun k => wide_signed.f k s l) (s && decide (0 < (nml l).length), nml l, 0) ∧ RI 4294967296 512 (s && decide (0 < (nml l).length)) (nml l) (if s then -(bv 4294967296 l) else bv 4294967296 l) := by
 have hlen : (nml l).length ≤ 512 := (lim_len (nml_wf hw) (nml_nrm l)).1 (by rw [nml_bv]; exact h)
 have hr := RI.mk' s (by decide) (nml_wf hw) (nml_nrm l) hlen
 rw [nml_bv] at hr
 refine ⟨?_, hr⟩
 obtain ⟨k1, h1⟩ := xnormal_ev (l := l) (by omega)
 dsimp only at h1
 refine ⟨k1, fun k hk => ?_⟩
 show wide_signed.f k s l = _
 unfold wide_signed.f
 rw [h1 k hk]
 simp only [Option.bind_some]
 rw [if_neg (by omega)]
 cases s <;> simp
theorem signed_big (s : Bool) {l : List Int} (hw : wf 4294967296 l) (hl : l.length ≤ 1000000) (h : lim ≤ bv 4294967296 l) : Ev (fun k => wide_signed.f k s l) (false, [], 4) := by
 have hlen : ¬ (nml l).length ≤ 512 := fun hh => by
  have := (lim_len (nml_wf hw) (nml_nrm l)).2 hh
  rw [nml_bv] at this
  omega
 obtain ⟨k1, h1⟩ := xnormal_ev (l := l) (by omega)
 dsimp only at h1
 refine ⟨k1, fun k hk => ?_⟩
 show wide_signed.f k s l = _
 unfold wide_signed.f
 rw [h1 k hk]
 simp only [Option.bind_some]
 rw [if_pos (by omega)]
def GivesW (f : Nat → Option (Bool × List Int × Int)) (z : Int) : Prop := ∃ n D, Ev f (n, D, 0) ∧ RI 4294967296 512 n D z
theorem bind_trip {α β γ : Type} (o : Option (α × β × γ)) : (o.bind fun b => some (b.1, b.2.1, b.2.2)) = o := by cases o <;> rfl
variable {an bn : Bool} {a b : List Int} {x y : Int}
theorem xneg_run (ha : RI 4294967296 512 an a x) : ∃ n, wide_Neg.f an a = some (n, a) ∧ RI 4294967296 512 n a (-x) := by
 refine ⟨_, rfl, ?_⟩
 have := RI.mk' (!an) (by decide) ha.wf ha.nrm ha.len
 have hv : (if (!an) = true then -(bv 4294967296 a) else bv 4294967296 a) = -x := by
  rw [ha.val]; cases an <;> simp
 rw [hv] at this
 exact this
def inLim (z : Int) : Prop := z < lim ∧ -lim < z
theorem RI.inLim (ha : RI 4294967296 512 an a x) : inLim x := by
 have h1 := (lim_len ha.wf ha.nrm).2 ha.len
 have h2 := ha.abs (by decide)
 have h0 := bv_nonneg (by decide : (0 : Int) ≤ 4294967296) ha.wf
 rw [h2] at h1 h0
 unfold Go.Proofs.YtlceokefdihdkaaGreatDoor.inLim
 split at h1 <;> omega
theorem signed_sign {s : Bool} {v z : Int} (h : z = if s then -v else v) (hv : 0 ≤ v) (hz : inLim z) : v < lim := by
 unfold inLim at hz
 cases s <;> simp at h <;> omega
theorem signed_sign_big {s : Bool} {v z : Int} (h : z = if s then -v else v) (hv : 0 ≤ v) (hz : ¬ inLim z) : lim ≤ v := by
 unfold inLim at hz
 have : 0 < lim := by unfold lim; exact Int.pow_pos (by decide)
 cases s <;> simp at h <;> omega
theorem xmul_pre (ha : RI 4294967296 512 an a x) (hb : RI 4294967296 512 bn b y) : ∃ s l, (∀ r, Ev (fun k => wide_signed.f k s l) r → Ev (fun k => wide_Mul.f k an a bn b) r) ∧ wf 4294967296 l ∧ l.length ≤ 1000000 ∧
  x * y = (if s then -(bv 4294967296 l) else bv 4294967296 l) := by
 have hla := ha.len
 have hlb := hb.len
 obtain ⟨d, ⟨k1, h1⟩, h2, h3, h4⟩ := xtimes_ev ha.wf hb.wf (by omega) (by omega)
 dsimp only at h1
 refine ⟨!(an == bn), d, ?_, h3, by omega, ?_⟩
 ·rintro r ⟨k2, h5⟩
  dsimp only at h5
  refine ⟨max k1 k2, fun k hk => ?_⟩
  show wide_Mul.f k an a bn b = _
  unfold wide_Mul.f
  rw [h1 k (by omega)]
  simp only [Option.bind_some]
  rw [bind_trip, h5 k (by omega)]
 ·rw [h2, ha.val, hb.val]
  cases an <;> cases bn <;> simp [Int.neg_mul, Int.mul_neg]
theorem xmul_gives (ha : RI 4294967296 512 an a x) (hb : RI 4294967296 512 bn b y) (hz : inLim (x * y)) : GivesW (fun k => wide_Mul.f k an a bn b) (x * y) := by
 obtain ⟨s, l, h1, h2, h3, h4⟩ := xmul_pre ha hb
 obtain ⟨e, r⟩ := signed_ok s h2 h3 (signed_sign h4 (bv_nonneg (by decide) h2) hz)
 rw [← h4] at r
 exact ⟨_, _, h1 _ e, r⟩
theorem xCompare_ev (ha : RI 4294967296 512 an a x) (hb : RI 4294967296 512 bn b y) : Ev (fun k => wide_Compare.f k an a bn b) (cmpI x y) := by
 have hla := ha.len
 have hlb := hb.len
 have h1 : Ev (fun k => wide_compare.f k a b) (cmpI (bv 4294967296 a) (bv 4294967296 b)) := ⟨a.length + 1, fun k hk => xcompare_run (by decide) ha.wf hb.wf ha.nrm hb.nrm (by omega) k (by omega)⟩
 have h2 : Ev (fun k => wide_compare.f k b a) (cmpI (bv 4294967296 b) (bv 4294967296 a)) := ⟨b.length + 1, fun k hk => xcompare_run (by decide) hb.wf ha.wf hb.nrm ha.nrm (by omega) k (by omega)⟩
 have n1 := ha.neg_iff (by decide)
 have n2 := hb.neg_iff (by decide)
 have e1 := ha.abs (by decide)
 have e2 := hb.abs (by decide)
 cases an <;> cases bn
 ·have hx : ¬ x < 0 := fun h => by simpa using n1.2 h
  have hy : ¬ y < 0 := fun h => by simpa using n2.2 h
  rw [e1, e2, if_neg hx, if_neg hy] at h1
  refine Ev.up (h1.of fun k => ?_)
  unfold wide_Compare.f
  simp [wide_Compare.j0]
 ·have hx : ¬ x < 0 := fun h => by simpa using n1.2 h
  have hy : y < 0 := n2.1 rfl
  rw [cmpI_gt (by omega)]
  refine Ev.up (Ev.of_eq fun k => ?_)
  unfold wide_Compare.f
  simp [wide_Compare.j0]
 ·have hx : x < 0 := n1.1 rfl
  have hy : ¬ y < 0 := fun h => by simpa using n2.2 h
  rw [cmpI_lt (by omega)]
  refine Ev.up (Ev.of_eq fun k => ?_)
  unfold wide_Compare.f
  simp [wide_Compare.j0]
 ·have hx : x < 0 := n1.1 rfl
  have hy : y < 0 := n2.1 rfl
  rw [e1, e2, if_pos hx, if_pos hy] at h2
  have : cmpI (-y) (-x) = cmpI x y := by unfold cmpI; (repeat' split) <;> omega
  rw [this] at h2
  refine Ev.up (h2.of fun k => ?_)
  unfold wide_Compare.f
  simp [wide_Compare.j0]
theorem xsign_ev (ha : RI 4294967296 512 an a x) : Ev (fun k => wide_Sign.f k an a) (cmpI x 0) :=
 (xCompare_ev ha (RI.zero _ _)).of fun k => by unfold wide_Sign.f; simp
theorem lim_big : (18446744073709551616 : Int) < lim := by unfold lim; decide +kernel
theorem xfrom_gives {n : Int} (h0 : -9223372036854775808 ≤ n) (h1 : n < 9223372036854775808) : ∃ m D, Ev (fun k => wide_From.f k n) (m, D) ∧ RI 4294967296 512 m D n := by
 have hlb := lim_big
 by_cases hn : n < 0
 ·have hu : IntKind.u64.wrap (-(IntKind.u64.wrap n)) = -n := by rw [IntKind.wrap_u64, IntKind.wrap_u64]; omega
  have hw : wf 4294967296 [(-n) % 4294967296, ((-n) / 4294967296) % 4294967296] := wf_cons.2 ⟨by omega, wf_one (by omega) (by omega)⟩
  have hv : bv 4294967296 [(-n) % 4294967296, ((-n) / 4294967296) % 4294967296] = -n := by simp only [bv]; omega
  obtain ⟨e, r⟩ := signed_ok true hw (by simp) (by rw [hv]; omega)
  rw [hv] at r
  refine ⟨_, _, ?_, by simpa using r⟩
  obtain ⟨k1, h2⟩ := e
  dsimp only at h2
  refine ⟨k1, fun k hk => ?_⟩
  show wide_From.f k n = _
  unfold wide_From.f
  rw [if_pos hn, hu, h2 k hk]
  rfl
 ·have hu : IntKind.u64.wrap n = n := w64 (by omega) (by omega)
  have hw : wf 4294967296 [n % 4294967296, (n / 4294967296) % 4294967296] := wf_cons.2 ⟨by omega, wf_one (by omega) (by omega)⟩
  have hv : bv 4294967296 [n % 4294967296, (n / 4294967296) % 4294967296] = n := by simp only [bv]; omega
  obtain ⟨e, r⟩ := signed_ok false hw (by simp) (by rw [hv]; omega)
  rw [hv] at r
  refine ⟨_, _, ?_, by simpa using r⟩
  obtain ⟨k1, h2⟩ := e
  dsimp only at h2
  refine ⟨k1, fun k hk => ?_⟩
  show wide_From.f k n = _
  unfold wide_From.f
  rw [if_neg hn, hu, h2 k hk]
  rfl
end Go.Proofs.YtlceokefdihdkaaGreatDoor
namespace Go.Proofs.YtlceokefdihdkaaGreatDoor
open Go.RowKit Go.Proofs.YtlceokefdihdkaaGreatDoorW.PrintWords Go.Proofs.YtlceokefdihdkaaGreatDoorW.PrintLast Go.Proofs.YtlceokefdihdkaaGreatDoorW.PrintMore
open X Go.Lib
set_option linter.unusedSimpArgs false
set_option linter.unusedVariables false
theorem ba_append (a b : ByteArray) : a ++ b = ⟨(a.data.toList ++ b.data.toList).toArray⟩ := by
 apply ByteArray.ext
 apply Array.ext'
 rw [ByteArray.data_append, Array.toList_append]
theorem bs_append (a b : List UInt8) : (⟨a.toArray⟩ : ByteArray) ++ ⟨b.toArray⟩ = ⟨(a ++ b).toArray⟩ := by
 rw [ba_append]
theorem bs_size (l : List UInt8) : (⟨l.toArray⟩ : ByteArray).size = l.length := rfl
theorem extract_eq (s : ByteArray) (q m : Nat) : s.extract q (q + m) = ⟨((s.data.toList.drop q).take m).toArray⟩ := by
 apply ByteArray.ext
 apply Array.ext'
 rw [ByteArray.data_extract, Array.toList_extract, List.extract_eq_take_drop]
 congr 1
 omega
theorem or_add {h l : Int} (h0 : 0 ≤ h) (h1 : h < 4294967296) (l0 : 0 ≤ l) (l1 : l < 4294967296) : Go.bits .or .u64 (h * 4294967296) l = h * 4294967296 + l :=
 bits_join .u64 64 (Nat.le_refl _) (fun n h₀ h₁ => wraps_u64 n h₀ h₁) 32 _ _ (by omega) (by show h * 4294967296 % 4294967296 = 0; omega) (by show h * 4294967296 < 18446744073709551616; omega) l0 (by show l < 4294967296; omega) (by show l < 18446744073709551616; omega)
theorem short_l0 {l : List Int} {w : Int} (hl : wf 4294967296 l) (hw : 0 < w ∧ w < 4294967296) (hz : l.length ≤ 1000000) : ∀ (n : Nat) (dn : List Int) (rest : Int), n ≤ l.length → n + dn.length = l.length → 0 ≤ rest ∧ rest < w → ∃ q r, (∀ k, n < k → Y.wide_short.l0 k l w (List.replicate n 0 ++ dn) rest ((n : Int) - 1) = some (q ++ dn, r)) ∧
  bv 4294967296 q * w + r = rest * 4294967296 ^ n + bv 4294967296 (l.take n) ∧ wf 4294967296 q ∧ q.length = n ∧ 0 ≤ r ∧ r < w := by
 intro n
 induction n with
 | zero =>
  intro dn rest hn hd hr
  refine ⟨[], rest, ?_, by simp [bv], wf_nil _, rfl, hr.1, hr.2⟩
  intro k hk
  obtain ⟨k, rfl⟩ : ∃ m, k = m + 1 := ⟨k - 1, by omega⟩
  have : rest % 4294967296 = rest := by omega
  simp only [Y.wide_short.l0]
  rw [if_neg (by omega), this]
  rfl
 | succ n ih =>
  intro dn rest hn hd hr
  have hrl := rd_wf hl (i := (n : Int)) (by omega) (by omega)
  obtain ⟨t, ht⟩ : ∃ t, t = rest * 4294967296 + rd l n := ⟨_, rfl⟩
  have t0 : 0 ≤ t := by omega
  have t1 : t < 18446744073709551616 := by omega
  have tw : t < w * 4294967296 := by
   have : rest * 4294967296 + 4294967296 ≤ w * 4294967296 := by
    have := Int.mul_le_mul_of_nonneg_right (show rest + 1 ≤ w by omega) (show (0 : Int) ≤ 4294967296 by decide)
    omega
   omega
  have d0 : 0 ≤ t / w := Int.ediv_nonneg t0 (by omega)
  have d1 : t / w < 4294967296 := Int.ediv_lt_of_lt_mul hw.1 (by rw [Int.mul_comm]; exact tw)
  have m0 : 0 ≤ t % w := Int.emod_nonneg _ (by omega)
  have m1 : t % w < w := Int.emod_lt_of_pos _ hw.1
  obtain ⟨q, r, h1, h2, h3, h4, h5, h6⟩ := ih (t / w :: dn) (t % w) (by omega) (by simp; omega) ⟨m0, m1⟩
  refine ⟨q ++ [t / w], r, ?_, ?_, wf_append.2 ⟨h3, wf_one d0 d1⟩, by simp [h4], h5, h6⟩
  ·intro k hk
   obtain ⟨k, rfl⟩ : ∃ m, k = m + 1 := ⟨k - 1, by omega⟩
   have e : ((n + 1 : Nat) : Int) - 1 = n := by omega
   have er : List.replicate (n + 1) (0 : Int) ++ dn = List.replicate n 0 ++ 0 :: dn := by rw [List.replicate_succ', List.append_assoc]; rfl
   have eset : (List.replicate n (0 : Int) ++ 0 :: dn).set n (t / w) = List.replicate n 0 ++ t / w :: dn := by
    rw [set_mid _ _ _ _ _ (by simp)]; simp
   have u1 : IntKind.u64.wrap w = w := w64 (by omega) (by omega)
   have u2 : IntKind.u64.wrap (rest * 4294967296) = rest * 4294967296 := w64 (by omega) (by omega)
   have u3 : IntKind.u64.wrap (rd l n) = rd l n := w64 (by omega) (by omega)
   have u4 : IntKind.u64.wrap (t / w) = t / w := w64 (by omega) (by omega)
   have u5 : t / w % 4294967296 = t / w := by omega
   have u6 : wrap64 ((n : Int) - 1) = (n : Int) - 1 := wrap_id (by omega) (by omega)
   have c0 : (n : Int) ≥ 0 := by omega
   have c1 : (n : Int) < (l.length : Int) := by omega
   have c2 : (n : Int) < ((List.replicate n (0 : Int) ++ 0 :: dn).length : Int) := by simp; omega
   rw [e, er]
   simp only [Y.wide_short.l0]
   rw [if_pos c0, if_pos c0, if_pos c1, u1, if_neg (by omega), if_pos c2, u2, u3, or_add hr.1 (by omega) hrl.1 hrl.2, ← ht, tdiv_pos t0, tmod_pos t0, u4, u5, Int.toNat_natCast, eset, u6, h1 k (by omega), List.append_assoc]
   rfl
  ·rw [bv_snoc, h4, take_snoc_bv _ l n (by omega), Int.pow_succ, Int.add_mul]
   have e2 : t % w + w * (t / w) = t := Int.emod_add_mul_ediv _ _
   have e3 : bv 4294967296 q * w = t % w * 4294967296 ^ n + bv 4294967296 (l.take n) - r := by omega
   rw [e3]
   have e4 : 4294967296 ^ n * (t / w) * w = 4294967296 ^ n * (w * (t / w)) := by rw [Int.mul_assoc, Int.mul_comm (t / w) w]
   have e5 : w * (t / w) = t - t % w := by omega
   have c1 := Int.mul_comm (t % w) (4294967296 ^ n)
   have c2 : rest * (4294967296 ^ n * 4294967296) = 4294967296 ^ n * (rest * 4294967296) := Int.mul_left_comm ..
   have c3 : 4294967296 ^ n * t = 4294967296 ^ n * (rest * 4294967296) + 4294967296 ^ n * rd l n := by rw [ht, Int.mul_add]
   rw [e4, e5, Int.mul_sub, c1, c2, c3]
   omega
theorem short_spec {l : List Int} {w : Int} (hl : wf 4294967296 l) (hw : 0 < w ∧ w < 4294967296) (hz : l.length ≤ 900000) : ∃ q r, Y.wide_short.f K0 l w = some (q, r) ∧ bv 4294967296 q * w + r = bv 4294967296 l ∧ wf 4294967296 q ∧ q.length = l.length ∧ 0 ≤ r ∧ r < w := by
 obtain ⟨q, r, h1, h2, h3, h4, h5, h6⟩ := short_l0 hl hw (by omega) l.length [] 0 (Nat.le_refl _) (by simp) ⟨by omega, hw.1⟩
 refine ⟨q, r, ?_, by rw [h2, List.take_length]; simp, h3, h4, h5, h6⟩
 unfold Y.wide_short.f
 have hw1 : wrap64 ((l.length : Int) - 1) = (l.length : Int) - 1 := wrap_id (by omega) (by omega)
 have := h1 K0 (by unfold K0; omega)
 rw [List.append_nil, List.append_nil] at this
 rw [if_pos (by omega), if_pos (by omega), hw1, Int.toNat_natCast]
 exact this
def txt (z : Int) : List UInt8 := (if z < 0 then [45] else []) ++ decDigits z.natAbs
theorem itoa_nonneg {r : Int} (h : 0 ≤ r) : Lib.itoa r = decDigits r.toNat := by unfold Lib.itoa; rw [if_neg (by omega)]
theorem rep48 (n : Nat) : Lib.repeatL [48] n = List.replicate n 48 := by
 induction n with
 | zero => rfl
 | succ n ih => rw [Lib.repeatL, ih]; rfl
theorem part_true {r : Int} (h0 : 0 ≤ r) (h1 : r < 1000000000) : (partS true r).data.toList = pad 9 r.toNat := by
 unfold partS
 rw [if_pos rfl, bs_append, rep48, itoa_nonneg h0, pad_dec 9 r.toNat (by decide) (by omega)]
theorem part_false {r : Int} (h0 : 0 ≤ r) : (partS false r).data.toList = decDigits r.toNat := by
 unfold partS
 rw [if_neg (by decide), itoa_nonneg h0]
theorem catL_cons (s : ByteArray) (l : List ByteArray) : catL (s :: l) = catL l ++ s.data.toList := by
 unfold catL
 simp [List.flatMap_append]
theorem strL_run (n : Nat) : ∀ (m : List Int) (acc : List ByteArray), wf 4294967296 m → nrm m → m.length ≤ 512 → bv 4294967296 m < 1000000000 ^ n → acc.length + n < 100000 → ∃ P, (∀ k, n < k → strL k m acc = some (acc ++ P)) ∧
  catL P = (if m = [] then [] else decDigits (bv 4294967296 m).toNat) ∧ (catL P).length ≤ 9 * n := by
 induction n with
 | zero =>
  intro m acc hw hn hl hb hacc
  have hm : m = [] := (bv_zero (by decide) hw hn).1 (by have := bv_nonneg (by decide : (0 : Int) ≤ 4294967296) hw; simp at hb; omega)
  subst hm
  refine ⟨[], ?_, by rw [if_pos rfl]; rfl, by simp [catL]⟩
  intro k hk
  obtain ⟨k, rfl⟩ : ∃ m, k = m + 1 := ⟨k - 1, by omega⟩
  simp [strL]
 | succ n ih =>
  intro m acc hw hn hl hb hacc
  by_cases hm : m = []
  ·subst hm
   refine ⟨[], ?_, by rw [if_pos rfl]; rfl, by simp [catL]⟩
   intro k hk
   obtain ⟨k, rfl⟩ : ∃ m, k = m + 1 := ⟨k - 1, by omega⟩
   simp [strL]
  ·obtain ⟨q, r, s1, s2, s3, s4, s5, s6⟩ := short_spec hw (w := 1000000000) ⟨by decide, by decide⟩ (by omega)
   have hq0 := bv_nonneg (by decide : (0 : Int) ≤ 4294967296) s3
   rw [Int.pow_succ] at hb
   have hp : (0 : Int) < 1000000000 ^ n := Int.pow_pos (by decide)
   have hqb : bv 4294967296 (nml q) < 1000000000 ^ n := by
    rw [nml_bv]
    generalize (1000000000 : Int) ^ n = p at *
    omega
   obtain ⟨P, p1, p2, p3⟩ := ih (nml q) (acc ++ [partS (decide (0 < (nml q).length)) r]) (nml_wf s3) (nml_nrm q) (Nat.le_trans (nml_len q) (by omega)) hqb (by simp; omega)
   have hlenP : (partS (decide (0 < (nml q).length)) r).data.toList.length ≤ 9 := by
    by_cases h0 : 0 < (nml q).length
    ·rw [decide_eq_true h0, part_true s5 s6, pad_len]; exact Nat.le_refl _
    ·rw [decide_eq_false h0, part_false s5]; exact dec_len_le 9 _ (by decide) (by omega)
   refine ⟨partS (decide (0 < (nml q).length)) r :: P, ?_, ?_, by rw [catL_cons, List.length_append]; omega⟩
   ·intro k hk
    obtain ⟨k, rfl⟩ : ∃ m, k = m + 1 := ⟨k - 1, by omega⟩
    have hm0 : ¬ m.length = 0 := fun h => hm (List.length_eq_zero_iff.1 h)
    simp only [strL]
    rw [if_neg hm0, s1]
    simp only [Option.bind_some]
    rw [ynormal_run q (by omega) K0 (by unfold K0; omega)]
    simp only [Option.bind_some]
    rw [if_pos ⟨s5, s6, by omega⟩, p1 k (by omega), List.append_assoc]
    rfl
   ·rw [catL_cons, p2, if_neg hm]
    rw [nml_bv]
    by_cases h0 : nml q = []
    ·rw [if_pos h0, h0]
     have hq : bv 4294967296 q = 0 := by rw [← nml_bv, h0]; rfl
     rw [show decide (0 < ([] : List Int).length) = false by decide, part_false s5, ← s2, hq]
     simp
    ·have hpos : 0 < (nml q).length := List.length_pos_iff.2 h0
     have hq : 0 < bv 4294967296 q := by rw [← nml_bv]; exact bv_pos (by decide) (nml_wf s3) (nml_nrm q) h0
     rw [if_neg h0, decide_eq_true hpos, part_true s5 s6, ← s2]
     have := dec_join 9 (bv 4294967296 q).toNat r.toNat (by omega) (by omega)
     rw [← this]
     congr 1
     omega
theorem pow_cmp : (4294967296 : Int) ^ 512 ≤ 1000000000 ^ 600 := by decide +kernel
theorem string_run {n : Bool} {D : List Int} {z : Int} (h : RI 4294967296 512 n D z) : wide_Int_String.f n D = some ⟨(txt z).toArray⟩ := by
 unfold wide_Int_String.f txt
 have hi := h.nil_iff (by decide)
 have hneg := h.neg_iff (by decide)
 have habs := h.abs (by decide)
 by_cases h0 : D = []
 ·have hz := hi.1 h0
  subst h0 hz
  rw [if_pos (c := ([] : List Int).length = 0) rfl, if_neg (by decide), show decDigits (0 : Int).natAbs = [48] from dec_small (by decide)]
  rfl
 ·rw [if_neg (fun hh => h0 (List.length_eq_zero_iff.1 hh))]
  have hlt := (lim_len h.wf h.nrm).2 h.len
  obtain ⟨P, p1, p2, p3⟩ := strL_run 600 D [] h.wf h.nrm h.len (by have := pow_cmp; unfold lim at hlt; omega) (by simp)
  rw [p1 K0 (by unfold K0; omega)]
  simp only [Option.bind_some, List.nil_append]
  rw [if_pos (by omega), p2, if_neg h0, habs]
  cases n with
  | true =>
   have hz := hneg.1 rfl
   rw [if_pos rfl, if_pos hz, if_pos hz, show (-z).toNat = z.natAbs by omega]
  | false =>
   have hz : ¬ z < 0 := fun hh => by simpa using hneg.2 hh
   rw [if_neg (by decide), if_neg hz, if_neg hz, show z.toNat = z.natAbs by omega]
theorem digit_cut : ∀ d : Fin 10, (⟨#[48, 49, 50, 51, 52, 53, 54, 55, 56, 57]⟩ : ByteArray).extract d.val (d.val + 1) = ⟨[UInt8.ofNat (48 + d.val)].toArray⟩ := by decide
theorem dec_l0 (a0 : Int) (ha : ¬ a0 < 0) (n : Nat) : ∀ (x : Nat) (s : List UInt8), x < 10 ^ n → (x : Int) < 9223372036854775808 → s.length + n ≤ 1000 → 0 < x → ∀ k, n < k →
  worldmintref01_Decimal.l0 k a0 (⟨#[48, 49, 50, 51, 52, 53, 54, 55, 56, 57]⟩ : ByteArray) ⟨s.toArray⟩ (x : Int) = some ⟨(decDigits x ++ s).toArray⟩ := by
 induction n with
 | zero => intro x s hx _ _ h0; simp at hx; omega
 | succ n ih =>
  intro x s hx hb hs h0 k hk
  obtain ⟨k, rfl⟩ : ∃ m, k = m + 1 := ⟨k - 1, by omega⟩
  rw [Nat.pow_succ] at hx
  have ht : Int.tmod (x : Int) 10 = ((x % 10 : Nat) : Int) := by rw [tmod_pos (by omega)]; omega
  have hdv : wrap64 (Int.tdiv (x : Int) 10) = ((x / 10 : Nat) : Int) := by rw [tdiv_pos (by omega), wrap_id (by omega) (by omega)]; omega
  have hw1 : wrap64 (((x % 10 : Nat) : Int) + 1) = ((x % 10 + 1 : Nat) : Int) := wrap_succ _ (by omega)
  have hc := digit_cut ⟨x % 10, by omega⟩
  simp only at hc
  simp only [worldmintref01_Decimal.l0]
  rw [if_neg (by omega), ht, if_neg (by omega), if_pos (by omega), hw1, if_pos (by omega), if_pos (by show ((x % 10 + 1 : Nat) : Int) ≤ 10; omega), Int.toNat_natCast, Int.toNat_natCast, hc, bs_size, bs_size, if_pos (by simp; omega), bs_append, hdv]
  by_cases h9 : x < 10
  ·have e0 : x / 10 = 0 := by omega
   rw [e0, dec_small h9, show x % 10 = x by omega]
   obtain ⟨k, rfl⟩ : ∃ m, k = m + 1 := ⟨k - 1, by omega⟩
   simp only [worldmintref01_Decimal.l0]
   rw [if_pos (by rfl), if_neg ha]
  ·have hn : n ≠ 0 := by rintro rfl; simp at hx; omega
   rw [ih (x / 10) ([UInt8.ofNat (48 + x % 10)] ++ s) (by omega) (by omega) (by simp; omega) (by omega) k (by omega), dec_big (n := x) (by omega)]
   simp
theorem decimal_ev {x : Int} (h0 : 0 ≤ x) (h1 : x < 1000000000000000000) : ∀ k, 19 < k → worldmintref01_Decimal.f k x = some ⟨(decDigits x.toNat).toArray⟩ := by
 intro k hk
 unfold worldmintref01_Decimal.f
 by_cases hz : x = 0
 ·subst hz; rw [if_pos rfl, show decDigits (0 : Int).toNat = [48] from dec_small (by decide)]
 ·rw [if_neg hz]
  obtain ⟨n, rfl⟩ := Int.eq_ofNat_of_zero_le h0
  have := dec_l0 (n : Int) (by omega) 18 n [] (by show n < 1000000000000000000; omega) (by omega) (by simp) (by omega) k (by omega)
  rw [List.append_nil] at this
  rw [Int.toNat_natCast]
  exact this
theorem text_l1 (n : Bool) (D : List Int) (X : ByteArray) (i : Int) (m : Nat) : ∀ (s : List UInt8), s.length + m = 4 → X.size ≤ 1000000 → ∀ {r}, Ev (fun k => worldmintref05_Text.l0 k (X ++ ⟨(List.replicate m 48 ++ s).toArray⟩) (wrap64 (i - 1)) n D) r →
  Ev (fun k => worldmintref05_Text.l1 k X i ⟨s.toArray⟩ n D) r := by
 induction m with
 | zero =>
  intro s hs hX r hr
  refine Ev.up (hr.of fun k => ?_)
  simp only [worldmintref05_Text.l1]
  rw [bs_size, if_neg (by omega), if_pos (by omega)]
  rfl
 | succ m ih =>
  intro s hs hX r hr
  have e : List.replicate (m + 1) (48 : UInt8) ++ s = List.replicate m 48 ++ (48 :: s) := by rw [List.replicate_succ', List.append_assoc]; rfl
  rw [e] at hr
  have := ih (48 :: s) (by simp; omega) hX hr
  refine Ev.up (this.of fun k => ?_)
  simp only [worldmintref05_Text.l1]
  rw [bs_size, if_pos (by omega), if_pos (by omega)]
  rfl
theorem text_l0 {neg : Bool} {D : List Int} (hw : wf 10000 D) (hn : nrm D) (hl : D.length ≤ 100000) : ∀ (i : Nat), i < D.length →
  Ev (fun k => worldmintref05_Text.l0 k ⟨(decDigits (bv 10000 (D.drop i)).toNat).toArray⟩ ((i : Int) - 1) neg D) ⟨((if neg then [45] else []) ++ decDigits (bv 10000 D).toNat).toArray⟩ := by
 have hlen : ∀ i, i < D.length → (decDigits (bv 10000 (D.drop i)).toNat).length ≤ 400000 := by
  intro i hi
  refine Nat.le_trans (dec_len_le (4 * (D.length - i)) _ (by omega) ?_) (by omega)
  have h1 := bv_lt (by decide) (wf_drop hw i)
  rw [List.length_drop] at h1
  have h0 := bv_nonneg (by decide : (0 : Int) ≤ 10000) (wf_drop hw i)
  have h2 : (10000 : Int) ^ (D.length - i) = ((10 ^ (4 * (D.length - i)) : Nat) : Int) := by
   rw [Nat.pow_mul, Int.natCast_pow]; rfl
  rw [h2] at h1
  omega
 intro i
 induction i with
 | zero =>
  intro hi
  rw [List.drop_zero]
  refine Ev.up ((Ev.ok _).of fun k => ?_)
  simp only [worldmintref05_Text.l0]
  have h1 := hlen 0 hi
  rw [List.drop_zero] at h1
  rw [if_neg (by omega), bs_size]
  cases neg with
  | true => rw [if_pos rfl, if_pos (by omega)]; exact congrArg some (bs_append [45] _)
  | false => rw [if_neg (by decide)]; rfl
 | succ i ih =>
  intro hi
  have hil : i < D.length := by omega
  have hr := rd_wf hw (i := (i : Int)) (by omega) (by omega)
  have hpos : 0 < bv 10000 (D.drop (i + 1)) := by
   refine bv_pos (by decide) (wf_drop hw _) ?_ ?_
   ·intro x hx
    exact hn x (by rw [List.getLast?_drop, if_neg (by omega)] at hx; exact hx)
   ·intro he
    rw [List.drop_eq_nil_iff] at he
    omega
  have hj : decDigits (bv 10000 (D.drop i)).toNat = decDigits (bv 10000 (D.drop (i + 1))).toNat ++ pad 4 (rd D i).toNat := by
   rw [← dec_join 4 (bv 10000 (D.drop (i + 1))).toNat (rd D i).toNat (by omega) (by omega), drop_rd D i hil]
   simp only [bv]
   congr 1
   omega
  have ihh := ih hil
  rw [hj] at ihh
  have hd := decimal_ev (x := rd D i) (by omega) (by omega)
  have hpl : (decDigits (rd D i).toNat).length ≤ 4 := dec_len_le 4 _ (by decide) (by omega)
  have h1 := text_l1 neg D ⟨(decDigits (bv 10000 (D.drop (i + 1))).toNat).toArray⟩ (i : Int) (4 - (decDigits (rd D i).toNat).length) (decDigits (rd D i).toNat) (by omega) (by rw [bs_size]; have := hlen (i + 1) hi; omega)
   (r := ⟨((if neg then [45] else []) ++ decDigits (bv 10000 D).toNat).toArray⟩) (by
    rw [← pad_dec 4 (rd D i).toNat (by decide) (by omega), bs_append]
    have e : wrap64 ((i : Int) - 1) = (i : Int) - 1 := wrap_id (by omega) (by omega)
    rw [e]
    exact ihh)
  obtain ⟨k1, h1⟩ := h1
  dsimp only at h1
  refine ⟨max k1 20 + 1, fun k hk => ?_⟩
  obtain ⟨k, rfl⟩ : ∃ m, k = m + 1 := ⟨k - 1, by omega⟩
  have e1 : ((i + 1 : Nat) : Int) - 1 = i := by omega
  show worldmintref05_Text.l0 (k + 1) _ _ neg D = _
  rw [e1]
  simp only [worldmintref05_Text.l0]
  rw [if_pos (by omega), if_pos (by omega), if_pos (by omega), hd k (by omega)]
  simp only [Option.bind_some]
  exact h1 k (by omega)
theorem text_ev {L : Nat} {n : Bool} {D : List Int} {z : Int} (h : RI 10000 L n D z) (hL : L ≤ 100000) : Ev (fun k => worldmintref05_Text.f k n D) ⟨(txt z).toArray⟩ := by
 have hi := h.nil_iff (by decide)
 have hneg := h.neg_iff (by decide)
 have habs := h.abs (by decide)
 have hl := h.len
 unfold txt
 by_cases h0 : D = []
 ·have hz := hi.1 h0
  subst h0 hz
  refine Ev.of_eq fun k => ?_
  unfold worldmintref05_Text.f
  rw [if_pos (by rfl), if_neg (by decide), show decDigits (0 : Int).natAbs = [48] from dec_small (by decide)]
  rfl
 ·have hpos : 0 < D.length := List.length_pos_iff.2 h0
  have h1 := text_l0 (neg := n) h.wf h.nrm (by omega) (D.length - 1) (by omega)
  have hr := rd_wf h.wf (i := ((D.length - 1 : Nat) : Int)) (by omega) (by omega)
  have hd := decimal_ev (x := rd D ((D.length - 1 : Nat) : Int)) (by omega) (by omega)
  have e1 : bv 10000 (D.drop (D.length - 1)) = rd D ((D.length - 1 : Nat) : Int) := by
   rw [drop_rd D (D.length - 1) (by omega), List.drop_eq_nil_of_le (by omega)]
   simp [bv]
  rw [e1] at h1
  have e2 : (if n then [45] else []) ++ decDigits (bv 10000 D).toNat = (if z < 0 then [45] else []) ++ decDigits z.natAbs := by
   rw [habs]
   cases n with
   | true =>
    have hz := hneg.1 rfl
    rw [if_pos rfl, if_pos hz, if_pos hz, show (-z).toNat = z.natAbs by omega]
   | false =>
    have hz : ¬ z < 0 := fun hh => by simpa using hneg.2 hh
    rw [if_neg (by decide), if_neg hz, if_neg hz, show z.toNat = z.natAbs by omega]
  rw [e2] at h1
  obtain ⟨k1, h1⟩ := h1
  dsimp only at h1
  refine ⟨max k1 20, fun k hk => ?_⟩
  show worldmintref05_Text.f k n D = _
  unfold worldmintref05_Text.f
  have w1 : wrap64 ((D.length : Int) - 1) = ((D.length - 1 : Nat) : Int) := by rw [wrap_id (by omega) (by omega)]; omega
  have w2 : wrap64 ((D.length : Int) - 2) = ((D.length - 1 : Nat) : Int) - 1 := by rw [wrap_id (by omega) (by omega)]; omega
  rw [if_neg (by omega), w1, w2, if_pos (by omega), if_pos (by omega), hd k (by omega)]
  simp only [Option.bind_some]
  exact h1 k (by omega)
theorem equal_ev {L : Nat} {an bn : Bool} {a b : List Int} {z : Int} (ha : RI 4294967296 512 an a z) (hb : RI 10000 L bn b z) (hL : L ≤ 100000) : Ev (fun k => worldmintlaw05_equal.f k an a bn b) true := by
 obtain ⟨k1, h1⟩ := text_ev hb hL
 dsimp only at h1
 refine ⟨k1, fun k hk => ?_⟩
 show worldmintlaw05_equal.f k an a bn b = _
 unfold worldmintlaw05_equal.f
 rw [string_run ha, h1 k hk]
 simp
end Go.Proofs.YtlceokefdihdkaaGreatDoor
namespace Go.Proofs.YtlceokefdihdkaaGreatDoor
open Go.RowKit Go.Proofs.YtlceokefdihdkaaGreatDoorW.PrintWords Go.Proofs.YtlceokefdihdkaaGreatDoorW.PrintLast Go.Proofs.YtlceokefdihdkaaGreatDoorW.PrintMore
open X Go.Lib
set_option linter.unusedSimpArgs false
set_option linter.unusedVariables false
theorem toList_loop (b : ByteArray) (n : Nat) : ∀ (i : Nat) (r : List UInt8), b.size ≤ i + n → ByteArray.toList.loop b i r = r.reverse ++ b.data.toList.drop i := by
 induction n with
 | zero =>
  intro i r h
  rw [ByteArray.toList.loop, if_neg (by omega), List.drop_eq_nil_of_le (by rw [Array.length_toList]; exact h), List.append_nil]
 | succ n ih =>
  intro i r h
  rw [ByteArray.toList.loop]
  split
  ·rename_i hi
   rw [ih (i + 1) _ (by omega)]
   have hl : i < b.data.toList.length := by rw [Array.length_toList]; exact hi
   rw [List.drop_eq_getElem_cons hl, List.reverse_cons, List.append_assoc]
   congr 2
   simp only [List.singleton_append, List.cons.injEq, and_true]
   have : b.get! i = b.data[i]! := rfl
   rw [this, Array.getElem!_eq_getD, Array.getD_eq_getD_getElem?]
   have h2 : i < b.data.size := hi
   rw [Array.getElem?_eq_getElem h2]
   simp
  ·rename_i hi
   rw [List.drop_eq_nil_of_le (by rw [Array.length_toList]; exact Nat.le_of_not_lt hi), List.append_nil]
theorem ba_toList (b : ByteArray) : b.toList = b.data.toList := by
 unfold ByteArray.toList
 rw [toList_loop b b.size 0 [] (by omega)]
 rfl
theorem bt_at0 (l : List UInt8) (i : Nat) (c : UInt8) (h : l[i]? = some c) : bt ⟨l.toArray⟩ (i : Int) = (c.toNat : Int) := by
 have hi := (List.getElem?_eq_some_iff.1 h)
 unfold bt
 have hlt : (i : Int).toNat < (⟨l.toArray⟩ : ByteArray).size := by rw [Int.toNat_natCast]; exact hi.1
 rw [dif_pos hlt]
 have e : (⟨l.toArray⟩ : ByteArray)[(i : Int).toNat]'hlt = c := by
  rw [ByteArray.getElem_eq_getElem_data]
  simp only [Int.toNat_natCast]
  simpa using hi.2
 rw [e]
def cutS (l : List UInt8) : Bool × List UInt8 := if l.head? = some 45 then (true, l.tail) else (false, l)
def digB (c : UInt8) : Bool := decide (48 ≤ c.toNat ∧ c.toNat ≤ 57)
theorem digB_iff (c : UInt8) : digB c = true ↔ isDig c := by unfold digB isDig; simp
def okD (neg : Bool) (d : List UInt8) : Bool := !d.isEmpty && d.all digB && !((d.head? == some 48) && (neg || decide (1 < d.length)))
def zv (neg : Bool) (d : List UInt8) : Int := if neg then -(dval 0 d : Int) else (dval 0 d : Int)
def parseZ (l : List UInt8) : Option Int := if okD (cutS l).1 (cutS l).2 then some (zv (cutS l).1 (cutS l).2) else none
theorem cutS_len (l : List UInt8) : (cutS l).2.length ≤ l.length := by
 unfold cutS; split <;> simp
theorem okD_spec {neg : Bool} {d : List UInt8} (h : okD neg d = true) : d ≠ [] ∧ (∀ c, c ∈ d → isDig c) ∧ (neg = true → d.head? ≠ some 48) ∧ (d.head? = some 48 → d.length = 1) := by
 unfold okD at h
 simp only [Bool.and_eq_true, Bool.not_eq_true', List.all_eq_true, List.isEmpty_eq_false_iff] at h
 obtain ⟨⟨h1, h2⟩, h3⟩ := h
 refine ⟨h1, fun c hc => (digB_iff c).1 (h2 c hc), ?_, ?_⟩
 ·intro hn hh
  rw [hn, hh] at h3
  simp at h3
 ·intro hh
  rw [hh] at h3
  have : 0 < d.length := List.length_pos_iff.2 h1
  cases neg <;> simp at h3
  omega
theorem txt_of_parse {l : List UInt8} {z : Int} (h : parseZ l = some z) : txt z = l := by
 unfold parseZ at h
 split at h
 ·rename_i hok
  injection h with h
  obtain ⟨h1, h2, h3, h4⟩ := okD_spec hok
  have hdd : decDigits (dval 0 (cutS l).2) = (cutS l).2 := by
   refine dec_dval _ _ rfl h2 h1 ?_
   intro c r e hc
   have hh : (cutS l).2.head? = some 48 := by rw [e]; exact congrArg some (u8_ext hc)
   have := h4 hh
   rw [e] at this
   exact List.length_eq_zero_iff.1 (by simpa using this)
  unfold cutS at h hdd h1 h3 h4
  by_cases hs : l.head? = some 45
  ·rw [if_pos hs] at h hdd h1 h3 h4
   have hl : l = 45 :: l.tail := by
    cases l with
    | nil => simp at hs
    | cons c r => simp at hs; subst hs; rfl
   simp only [zv, if_true] at h
   have hpos : 0 < dval 0 l.tail := by
    rcases Nat.eq_zero_or_pos (dval 0 l.tail) with h0 | h0
    ·exfalso
     rw [h0, dec_small (by decide)] at hdd
     have := h3 rfl
     rw [← hdd] at this
     exact this rfl
    ·exact h0
   unfold txt
   rw [← h, if_pos (by omega), show (-(dval 0 l.tail : Int)).natAbs = dval 0 l.tail by omega, hdd]
   exact hl.symm
  ·rw [if_neg hs] at h hdd
   simp only [zv] at h
   rw [if_neg (by decide)] at h
   unfold txt
   rw [← h, if_neg (by omega), show ((dval 0 l : Nat) : Int).natAbs = dval 0 l by omega, hdd]
   rfl
 ·cases h
theorem dec_ok (n : Nat) (hn : 0 < n) (neg : Bool) : okD neg (decDigits n) = true := by
 obtain ⟨c, r, e, hc⟩ := dec_head n hn
 have hd := dec_dig n
 unfold okD
 have h3 : (decDigits n).head? ≠ some 48 := by
  rw [e]
  intro h
  injection h with h
  exact hc (by rw [h]; rfl)
 have : ((decDigits n).head? == some 48) = false := by simpa using h3
 rw [this]
 simp only [Bool.false_and, Bool.not_false, Bool.and_true, Bool.and_eq_true, Bool.not_eq_true', List.all_eq_true, List.isEmpty_eq_false_iff]
 exact ⟨dec_ne n, fun c hc => (digB_iff c).2 (hd c hc)⟩
theorem parse_txt (z : Int) : parseZ (txt z) = some z := by
 unfold parseZ txt cutS
 by_cases hz : z < 0
 ·rw [if_pos hz]
  have hh : ([45] ++ decDigits z.natAbs).head? = some 45 := rfl
  rw [if_pos hh]
  show (if okD true (decDigits z.natAbs) = true then some (zv true (decDigits z.natAbs)) else none) = _
  rw [dec_ok z.natAbs (by omega), if_pos rfl]
  unfold zv
  rw [if_pos rfl, dval_dec]
  congr 1
  omega
 ·rw [if_neg hz, List.nil_append]
  have hh : (decDigits z.natAbs).head? ≠ some 45 := by
   intro h
   have hm : (45 : UInt8) ∈ decDigits z.natAbs := List.mem_of_head? h
   have := dec_dig _ _ hm
   unfold isDig at this
   simp at this
  rw [if_neg hh]
  show (if okD false (decDigits z.natAbs) = true then some (zv false (decDigits z.natAbs)) else none) = _
  have hok : okD false (decDigits z.natAbs) = true := by
   rcases Nat.eq_zero_or_pos z.natAbs with h | h
   ·rw [h, dec_small (by decide)]; decide
   ·exact dec_ok _ h _
  rw [hok, if_pos rfl]
  unfold zv
  rw [if_neg (by decide), dval_dec]
  congr 1
  omega
theorem atoi_digits {d : List UInt8} (h1 : d ≠ []) (h2 : ∀ c, c ∈ d → isDig c) (h3 : d.length ≤ 18) : strconv_Atoi.f ⟨d.toArray⟩ = some ((dval 0 d : Int), none) := by
 have hdf : ∀ (l : List UInt8) (acc : Nat), (∀ c, c ∈ l → isDig c) → decFrom acc l = some (dval acc l) := by
  intro l
  induction l with
  | nil => intro acc _; rfl
  | cons c l ih =>
   intro acc hc
   have h := hc c (List.mem_cons_self ..)
   unfold isDig at h
   rw [decFrom, dval_cons]
   have : digitVal c = some (dgv c) := by unfold digitVal dgv; rw [if_pos h]
   rw [this]
   exact ih _ (fun x hx => hc x (List.mem_cons_of_mem _ hx))
 unfold strconv_Atoi.f
 rw [if_pos (by rw [bs_size]; omega)]
 have e : atoiAll d = .ok (dval 0 d : Int) := by
  rw [atoiAll_short d h3]
  cases d with
  | nil => exact absurd rfl h1
  | cons c r =>
   have h := h2 c (List.mem_cons_self ..)
   unfold isDig at h
   have c1 : (c == 45) = false := by
    rw [beq_eq_false_iff_ne]; rintro rfl; simp at h
   have c2 : (c == 43) = false := by
    rw [beq_eq_false_iff_ne]; rintro rfl; simp at h
   have e0 : atoi (c :: r) = (decNat (c :: r)).map fun (m : Nat) => (m : Int) := by
    simp only [atoi]
    rw [c1, c2]
    rfl
   have e1 : decNat (c :: r) = some (dval 0 (c :: r)) := by
    unfold decNat
    rw [if_neg (by simp), hdf (c :: r) 0 h2]
   rw [e0, e1]
   rfl
 have e2 : (⟨d.toArray⟩ : ByteArray).data.toList = d := rfl
 rw [e2, e]
theorem mem_takeWhile' (f : UInt8 → Bool) : ∀ (l : List UInt8) (c : UInt8), c ∈ l.takeWhile f → f c = true
 | [], c, h => by simp at h
 | x :: l, c, h => by
  rw [List.takeWhile_cons] at h
  split at h
  ·rcases List.mem_cons.1 h with rfl | h
   ·assumption
   ·exact mem_takeWhile' f l c h
  ·simp at h
theorem trim_nil (l cs : List UInt8) : trimS l cs = [] ↔ ∀ c, c ∈ l → c ∈ cs := by
 unfold trimS trimLeftS trimRightS
 have h1 : ∀ m : List UInt8, m.dropWhile (cs.contains ·) = [] ↔ ∀ c, c ∈ m → c ∈ cs := by
  intro m
  induction m with
  | nil => simp
  | cons c m ih =>
   rw [List.dropWhile_cons]
   by_cases hc : cs.contains c = true
   ·rw [if_pos hc, ih]
    have : c ∈ cs := by simpa using hc
    simp [this]
   ·rw [if_neg hc]
    have : ¬ c ∈ cs := by simpa using hc
    simp [this]
 rw [h1]
 constructor
 ·intro h c hc
  by_cases hcc : c ∈ cs
  ·exact hcc
  ·
   have hm : c ∈ (l.reverse.dropWhile (cs.contains ·)).reverse := by
    rw [List.mem_reverse]
    have hsplit := List.takeWhile_append_dropWhile (p := (cs.contains ·)) (l := l.reverse)
    have hcr : c ∈ l.reverse := List.mem_reverse.2 hc
    rw [← hsplit, List.mem_append] at hcr
    rcases hcr with h2 | h2
    ·exfalso
     have := mem_takeWhile' _ _ _ h2
     exact hcc (by simpa using this)
    ·exact h2
   exact h c hm
 ·intro h c hc
  rw [List.mem_reverse] at hc
  exact h c (List.mem_reverse.1 (List.dropWhile_subset _ hc))
theorem dig_mem (c : UInt8) : c ∈ ([48, 49, 50, 51, 52, 53, 54, 55, 56, 57] : List UInt8) ↔ isDig c := by
 unfold isDig
 constructor
 ·intro h
  simp only [List.mem_cons, List.not_mem_nil, or_false] at h
  rcases h with h | h | h | h | h | h | h | h | h | h <;> subst h <;> decide
 ·intro h
  have : c = UInt8.ofNat c.toNat := by rw [UInt8.ofNat_toNat]
  have hn : c.toNat = 48 ∨ c.toNat = 49 ∨ c.toNat = 50 ∨ c.toNat = 51 ∨ c.toNat = 52 ∨ c.toNat = 53 ∨ c.toNat = 54 ∨ c.toNat = 55 ∨ c.toNat = 56 ∨ c.toNat = 57 := by omega
  rw [this]
  rcases hn with h | h | h | h | h | h | h | h | h | h <;> rw [h] <;> decide
end Go.Proofs.YtlceokefdihdkaaGreatDoor
namespace Go.Proofs.YtlceokefdihdkaaGreatDoor
open Go.RowKit Go.Proofs.YtlceokefdihdkaaGreatDoorW.PrintWords Go.Proofs.YtlceokefdihdkaaGreatDoorW.PrintLast Go.Proofs.YtlceokefdihdkaaGreatDoorW.PrintMore
open X Go.Lib
set_option linter.unusedSimpArgs false
set_option linter.unusedVariables false
theorem extract_to (l : List UInt8) (q : Nat) (h : q ≤ l.length) : (⟨l.toArray⟩ : ByteArray).extract q (⟨l.toArray⟩ : ByteArray).size = ⟨(l.drop q).toArray⟩ := by
 have e : (⟨l.toArray⟩ : ByteArray).size = q + (l.length - q) := by rw [bs_size]; omega
 rw [e, extract_eq]
 have : (l.drop q).take (l.length - q) = l.drop q := List.take_of_length_le (by simp)
 simp only [this]
theorem extract_0 (l : List UInt8) (m : Nat) : (⟨l.toArray⟩ : ByteArray).extract 0 m = ⟨(l.take m).toArray⟩ := by
 have := extract_eq (⟨l.toArray⟩ : ByteArray) 0 m
 rw [Nat.zero_add] at this
 rw [this]
 simp
theorem xparse_l0 (neg : Bool) (n : Nat) : ∀ (d : List UInt8) (mag : List Int), d.length ≤ n → (∀ c, c ∈ d → isDig c) → wf 4294967296 mag → mag.length + 2 * d.length ≤ 900000 → (bv 4294967296 mag = 0 ∨ d.length % 9 = 0) →
  ∃ m, wf 4294967296 m ∧ m.length ≤ mag.length + 2 * d.length ∧ bv 4294967296 m = bv 4294967296 mag * 10 ^ d.length + (dval 0 d : Int) ∧ ∀ r, Ev (fun k => wide_signed.f k neg m) r → Ev (fun k => wide_Parse.l0 k ⟨d.toArray⟩ neg mag) r := by
 induction n with
 | zero =>
  intro d mag hd hdig hw hl h9
  have : d = [] := List.length_eq_zero_iff.1 (by omega)
  subst this
  refine ⟨mag, hw, by omega, by simp [dval_nil], fun r hr => ?_⟩
  refine Ev.up (hr.of fun k => ?_)
  simp only [wide_Parse.l0]
  rw [if_neg (by decide), bind_trip]
 | succ n ih =>
  intro d mag hd hdig hw hl h9
  by_cases hd0 : d = []
  ·subst hd0
   refine ⟨mag, hw, by omega, by simp [dval_nil], fun r hr => ?_⟩
   refine Ev.up (hr.of fun k => ?_)
   simp only [wide_Parse.l0]
   rw [if_neg (by decide), bind_trip]
  ·have hpos : 0 < d.length := List.length_pos_iff.2 hd0
   obtain ⟨c, hc⟩ : ∃ c, c = (d.length - 1) % 9 + 1 := ⟨_, rfl⟩
   have hc1 : 1 ≤ c ∧ c ≤ 9 ∧ c ≤ d.length := by omega
   have hw1 : wrap64 ((d.length : Int) - 1) = ((d.length - 1 : Nat) : Int) := by rw [wrap_id (by omega) (by omega)]; omega
   have hm : Int.tmod ((d.length - 1 : Nat) : Int) 9 = (((d.length - 1) % 9 : Nat) : Int) := by rw [tmod_pos (by omega)]; omega
   have hw2 : wrap64 ((((d.length - 1) % 9 : Nat) : Int) + 1) = ((c : Nat) : Int) := by rw [wrap_succ _ (by omega), hc]
   have htd : ∀ x, x ∈ d.take c → isDig x := fun x hx => hdig x (List.mem_of_mem_take hx)
   have hdd : ∀ x, x ∈ d.drop c → isDig x := fun x hx => hdig x (List.mem_of_mem_drop hx)
   have htl : (d.take c).length = c := by rw [List.length_take]; omega
   have hv := dval_lt htd
   rw [htl] at hv
   have hp9 : (10 : Nat) ^ 9 = 1000000000 := by decide
   have hv9 : dval 0 (d.take c) < 1000000000 := by
    have := Nat.pow_le_pow_right (show 0 < 10 by decide) hc1.2.1
    rw [hp9] at this
    omega
   have hat := atoi_digits (d := d.take c) (by intro h; rw [h] at htl; simp at htl; omega) htd (by omega)
   have hb9 : wf 4294967296 [1000000000] := wf_one (by decide) (by decide)
   obtain ⟨t, ⟨k1, t1⟩, t2, t3, t4⟩ := xtimes_ev hw hb9 (by omega) (by simp)
   dsimp only at t1
   have hvw : ((dval 0 (d.take c) : Nat) : Int) % 4294967296 = (dval 0 (d.take c) : Int) := by omega
   have hbv : wf 4294967296 [(dval 0 (d.take c) : Int)] := wf_one (by omega) (by omega)
   have htl2 : t.length = mag.length + 1 := by rw [t4]; rfl
   obtain ⟨s1, s2, s3⟩ := sumO_spec t3 hbv (by rw [htl2]; simp)
   have hsum : wide_sum.f t [(dval 0 (d.take c) : Int)] = some (sumO t [(dval 0 (d.take c) : Int)]) := by
    unfold wide_sum.f
    rw [if_pos (by simp; omega), if_neg (by rw [htl2]; simp)]
   obtain ⟨k2, n1⟩ := xnormal_ev (l := sumO t [(dval 0 (d.take c) : Int)]) (by omega)
   dsimp only at n1
   have hnl := nml_len (sumO t [(dval 0 (d.take c) : Int)])
   have hdl : (d.drop c).length = d.length - c := List.length_drop
   have hval : bv 4294967296 (nml (sumO t [(dval 0 (d.take c) : Int)])) = bv 4294967296 mag * 1000000000 + (dval 0 (d.take c) : Int) := by
    rw [nml_bv, s1, t2]; simp [bv]
   obtain ⟨m, m1, m2, m3, m4⟩ := ih (d.drop c) (nml (sumO t [(dval 0 (d.take c) : Int)])) (by omega) hdd (nml_wf s2) (by omega) (.inr (by rw [hdl]; omega))
   refine ⟨m, m1, by omega, ?_, ?_⟩
   ·rw [m3, hval, hdl]
    have e1 : dval 0 d = dval 0 (d.take c) * 10 ^ (d.length - c) + dval 0 (d.drop c) := by
     have := dval_pow (dval 0 (d.take c)) (d.drop c)
     rw [← dval_append, List.take_append_drop, hdl] at this
     exact this
    have e2 : ((dval 0 d : Nat) : Int) = (dval 0 (d.take c) : Int) * 10 ^ (d.length - c) + (dval 0 (d.drop c) : Int) := by
     rw [e1, Int.natCast_add, Int.natCast_mul, Int.natCast_pow]; rfl
    rw [e2, Int.add_mul]
    rcases h9 with h9 | h9
    ·rw [h9]; simp
    ·have hc9 : c = 9 := by omega
     have e3 : (10 : Int) ^ d.length = 1000000000 * 10 ^ (d.length - c) := by
      have : d.length = 9 + (d.length - c) := by omega
      have h10 : (10 : Int) ^ 9 = 1000000000 := by decide
      rw [this, Int.pow_add, h10, ← this]
     rw [e3, Int.mul_assoc]
     omega
   ·intro r hr
    obtain ⟨k3, m5⟩ := m4 r hr
    dsimp only at m5
    refine ⟨max (max k1 k2) k3 + 1, fun k hk => ?_⟩
    obtain ⟨k, rfl⟩ : ∃ m, k = m + 1 := ⟨k - 1, by omega⟩
    show wide_Parse.l0 (k + 1) _ neg mag = _
    simp only [wide_Parse.l0]
    rw [bs_size, if_pos (by omega), hw1, hm, hw2, if_pos (by omega), if_pos (by omega), Int.toNat_natCast, extract_0, hat, Option.bind_some, t1 k (by omega), Option.bind_some]
    have hpr : ∀ a : Int, ((a, (none : Option Int)).1) = a := fun _ => rfl
    rw [hpr, hvw, hsum, Option.bind_some, n1 k (by omega), Option.bind_some]
    have := extract_to d c hc1.2.2
    rw [bs_size] at this
    rw [this]
    exact m5 k (by omega)
theorem cut_eq (l : List UInt8) : strings_CutPrefix.f ⟨l.toArray⟩ (⟨#[45]⟩ : ByteArray) = some (⟨(cutS l).2.toArray⟩, (cutS l).1) := by
 have hp : hasPrefix l [45] = (cutS l).1 := by
  unfold hasPrefix cutS
  cases l with
  | nil => rfl
  | cons c r =>
   by_cases h : c = 45
   ·subst h; simp [List.isPrefixOf]
   ·have : (c :: r).head? ≠ some 45 := by simpa using h
    rw [if_neg this]
    simp [List.isPrefixOf, Ne.symm h]
 have ht : trimPrefix l [45] = (cutS l).2 := by
  unfold trimPrefix
  rw [hp]
  unfold cutS
  by_cases h : l.head? = some 45
  ·rw [if_pos h]
   cases l with
   | nil => rfl
   | cons c r => rfl
  ·rw [if_neg h]; rfl
 show some ((⟨(trimPrefix l [45]).toArray⟩ : ByteArray), hasPrefix l [45]) = _
 rw [ht, hp]
theorem xparse_j0t (d : ByteArray) (neg : Bool) : Ev (fun k => wide_Parse.j0 k d neg true) (false, [], 2) :=
 Ev.up (Ev.of_eq fun k => by simp [wide_Parse.j0])
theorem trim_run (d : List UInt8) (hd : d.length ≤ 5000) : strings_Trim.f ⟨d.toArray⟩ (⟨#[48, 49, 50, 51, 52, 53, 54, 55, 56, 57]⟩ : ByteArray) = some ⟨(trimS d [48, 49, 50, 51, 52, 53, 54, 55, 56, 57]).toArray⟩ := by
 unfold strings_Trim.f
 rw [if_pos ⟨by rw [bs_size]; omega, by decide, by decide⟩]
theorem xparse_ev {l : List UInt8} (hl : l.length ≤ 5000) : (∀ z, parseZ l = some z → inLim z → GivesW (fun k => wide_Parse.f k ⟨l.toArray⟩) z) ∧
  (∀ z, parseZ l = some z → ¬ inLim z → Ev (fun k => wide_Parse.f k ⟨l.toArray⟩) (false, [], 4)) ∧ (parseZ l = none → Ev (fun k => wide_Parse.f k ⟨l.toArray⟩) (false, [], 2)) := by
 have hcl := cutS_len l
 have hgo : ∀ r, (okD (cutS l).1 (cutS l).2 = true → Ev (fun k => wide_Parse.l0 k ⟨(cutS l).2.toArray⟩ (cutS l).1 []) r) → (okD (cutS l).1 (cutS l).2 = false → r = (false, [], 2)) → Ev (fun k => wide_Parse.f k ⟨l.toArray⟩) r := by
  intro r h1 h2
  have hst : ∀ k, wide_Parse.f k ⟨l.toArray⟩ = (if (cutS l).2 = [] then (wide_Parse.j0 k ⟨(cutS l).2.toArray⟩ (cutS l).1 true) else (if trimS (cutS l).2 [48, 49, 50, 51, 52, 53, 54, 55, 56, 57] = [] then
    (if (cutS l).2.head? = some 48 then (if (cutS l).1 = true then (wide_Parse.j0 k ⟨(cutS l).2.toArray⟩ (cutS l).1 true) else (wide_Parse.j0 k ⟨(cutS l).2.toArray⟩ (cutS l).1 (decide (1 < (cutS l).2.length)))) else (wide_Parse.j0 k ⟨(cutS l).2.toArray⟩ (cutS l).1 false)) else (wide_Parse.j0 k ⟨(cutS l).2.toArray⟩ (cutS l).1 true))) := by
   intro k
   unfold wide_Parse.f
   rw [bs_size, if_neg (by omega), cut_eq]
   simp only [Option.bind_some]
   rw [ba_toList]
   by_cases hd0 : (cutS l).2 = []
   ·rw [if_pos hd0, if_pos hd0]
   ·rw [if_neg hd0, if_neg hd0]
    rw [trim_run _ (by omega)]
    simp only [Option.bind_some]
    rw [ba_toList]
    have hpos : 0 < (cutS l).2.length := List.length_pos_iff.2 hd0
    by_cases ht : trimS (cutS l).2 [48, 49, 50, 51, 52, 53, 54, 55, 56, 57] = []
    ·rw [if_pos ht, if_pos ht]
     rw [bs_size, if_pos (by omega)]
     obtain ⟨c, t, e⟩ : ∃ c t, (cutS l).2 = c :: t := by
      cases h : (cutS l).2 with
      | nil => exact absurd h hd0
      | cons c t => exact ⟨c, t, rfl⟩
     have hb : bt ⟨(cutS l).2.toArray⟩ 0 = (c.toNat : Int) := bt_at0 (cutS l).2 0 c (by rw [e]; rfl)
     rw [hb]
     by_cases h48 : c = 48
     ·subst h48
      rw [if_pos (show (((48 : UInt8).toNat : Nat) : Int) = 48 by decide), if_pos (show (cutS l).2.head? = some 48 by rw [e]; rfl)]
      by_cases hn : (cutS l).1 = true
      ·rw [if_pos hn, if_pos hn]
      ·rw [if_neg hn, if_neg hn]
       congr 1
       by_cases h1 : 1 < (cutS l).2.length
       ·rw [decide_eq_true h1, decide_eq_true (by omega)]
       ·rw [decide_eq_false h1, decide_eq_false (by omega)]
     ·have hc : ¬ ((c.toNat : Int) = 48) := fun h => h48 (u8_ext (by show c.toNat = 48; omega))
      rw [if_neg hc, if_neg (show ¬ (cutS l).2.head? = some 48 by rw [e]; intro h; injection h with h; exact h48 h)]
    ·rw [if_neg ht, if_neg ht]
  have hcase : ∀ k, wide_Parse.f k ⟨l.toArray⟩ = wide_Parse.j0 k ⟨(cutS l).2.toArray⟩ (cutS l).1 (!okD (cutS l).1 (cutS l).2) := by
   intro k
   rw [hst]
   by_cases hd0 : (cutS l).2 = []
   ·rw [if_pos hd0]
    have : okD (cutS l).1 (cutS l).2 = false := by rw [hd0]; unfold okD; rfl
    rw [this]; rfl
   ·rw [if_neg hd0]
    have he : (cutS l).2.isEmpty = false := by simpa using hd0
    by_cases ht : trimS (cutS l).2 [48, 49, 50, 51, 52, 53, 54, 55, 56, 57] = []
    ·rw [if_pos ht]
     have hall : (cutS l).2.all digB = true := by
      rw [List.all_eq_true]
      intro c hc
      exact (digB_iff c).2 ((dig_mem c).1 ((trim_nil _ _).1 ht c hc))
     unfold okD
     rw [he, hall]
     by_cases h48 : (cutS l).2.head? = some 48
     ·rw [if_pos h48, h48]
      cases h1 : (cutS l).1
      ·simp
      ·simp
     ·rw [if_neg h48]
      have : ((cutS l).2.head? == some 48) = false := by simpa using h48
      rw [this]
      simp
    ·rw [if_neg ht]
     have hall : (cutS l).2.all digB = false := by
      rw [Bool.eq_false_iff]
      intro h
      rw [List.all_eq_true] at h
      exact ht ((trim_nil _ _).2 fun c hc => (dig_mem c).2 ((digB_iff c).1 (h c hc)))
     unfold okD
     rw [hall]
     simp
  refine Ev.of ?_ hcase
  cases hok : okD (cutS l).1 (cutS l).2
  ·rw [h2 hok]
   exact xparse_j0t _ _
  ·refine Ev.up ((h1 hok).of fun k => ?_)
   simp [wide_Parse.j0]
 have hval : okD (cutS l).1 (cutS l).2 = true → ∃ m, wf 4294967296 m ∧ m.length ≤ 1000000 ∧ bv 4294967296 m = (dval 0 (cutS l).2 : Int) ∧ ∀ r, Ev (fun k => wide_signed.f k (cutS l).1 m) r → Ev (fun k => wide_Parse.l0 k ⟨(cutS l).2.toArray⟩ (cutS l).1 []) r := by
  intro hok
  obtain ⟨h1, h2, h3, h4⟩ := okD_spec hok
  obtain ⟨m, m1, m2, m3, m4⟩ := xparse_l0 (cutS l).1 (cutS l).2.length (cutS l).2 [] (Nat.le_refl _) h2 (wf_nil _) (by simp; omega) (.inl rfl)
  exact ⟨m, m1, by simp at m2; omega, by rw [m3]; simp [bv], m4⟩
 refine ⟨fun z hz hin => ?_, fun z hz hin => ?_, fun hz => ?_⟩
 ·have hok : okD (cutS l).1 (cutS l).2 = true := by
   unfold parseZ at hz; split at hz
   ·assumption
   ·cases hz
  have hzv : z = zv (cutS l).1 (cutS l).2 := by
   unfold parseZ at hz; rw [if_pos hok] at hz; injection hz with hz; exact hz.symm
  obtain ⟨m, m1, m2, m3, m4⟩ := hval hok
  have hz2 : z = (if (cutS l).1 then -(bv 4294967296 m) else bv 4294967296 m) := by rw [hzv, m3]; rfl
  obtain ⟨e, r⟩ := signed_ok (cutS l).1 m1 m2 (signed_sign hz2 (bv_nonneg (by decide) m1) hin)
  rw [← hz2] at r
  exact ⟨_, _, hgo _ (fun _ => m4 _ e) (fun h => by rw [hok] at h; cases h), r⟩
 ·have hok : okD (cutS l).1 (cutS l).2 = true := by
   unfold parseZ at hz; split at hz
   ·assumption
   ·cases hz
  have hzv : z = zv (cutS l).1 (cutS l).2 := by
   unfold parseZ at hz; rw [if_pos hok] at hz; injection hz with hz; exact hz.symm
  obtain ⟨m, m1, m2, m3, m4⟩ := hval hok
  have hz2 : z = (if (cutS l).1 then -(bv 4294967296 m) else bv 4294967296 m) := by rw [hzv, m3]; rfl
  have e := signed_big (cutS l).1 m1 m2 (signed_sign_big hz2 (bv_nonneg (by decide) m1) hin)
  exact hgo _ (fun _ => m4 _ e) (fun h => by rw [hok] at h; cases h)
 ·have hok : okD (cutS l).1 (cutS l).2 = false := by
   cases h : okD (cutS l).1 (cutS l).2
   ·rfl
   ·unfold parseZ at hz; rw [h, if_pos rfl] at hz; cases hz
  exact hgo _ (fun h => by rw [hok] at h; cases h) (fun _ => rfl)
end Go.Proofs.YtlceokefdihdkaaGreatDoor
namespace Go.Proofs.YtlceokefdihdkaaGreatDoor
open Go.RowKit Go.Proofs.YtlceokefdihdkaaGreatDoorW.PrintWords Go.Proofs.YtlceokefdihdkaaGreatDoorW.PrintLast Go.Proofs.YtlceokefdihdkaaGreatDoorW.PrintMore
open X Go.Lib
set_option linter.unusedSimpArgs false
set_option linter.unusedVariables false
def cc : Nat → Nat
 | 0 => 0
 | j + 1 => 2 * cc j + 1
theorem pow_sq (y : Int) (h : Nat) : (y * y) ^ h = y ^ (2 * h) := by
 induction h with
 | zero => simp
 | succ h ih => rw [Int.pow_succ, ih, show 2 * (h + 1) = 2 * h + 1 + 1 by omega, Int.pow_succ, Int.pow_succ, Int.mul_assoc]
theorem power_l0 (j : Nat) : ∀ (e : Nat) (La Lb : Nat) (an bn : Bool) (a b : List Int) (x y : Int), e < 2 ^ j → e < 9223372036854775808 → RI 10000 La an a x → RI 10000 Lb bn b y → La + Lb * (2 * cc j + 1) ≤ 900000 →
  GivesR (fun k => worldmintref05_Power.l0 k (e : Int) an a bn b) (La + Lb * cc j) (x * y ^ e) := by
 induction j with
 | zero =>
  intro e La Lb an bn a b x y he hs ha hb hL
  have : e = 0 := by simpa using he
  subst this
  refine ⟨an, a, Ev.up (Ev.of_eq fun k => ?_), ?_⟩
  ·simp only [worldmintref05_Power.l0]; rw [if_neg (by omega)]
  ·simpa using ha.mono (by simp)
 | succ j ih =>
  intro e La Lb an bn a b x y he hs ha hb hL
  by_cases he0 : e = 0
  ·subst he0
   refine ⟨an, a, Ev.up (Ev.of_eq fun k => ?_), ?_⟩
   ·simp only [worldmintref05_Power.l0]; rw [if_neg (by omega)]
   ·have := ha.mono (show La ≤ La + Lb * cc (j + 1) by omega)
    simpa using this
  ·have hcc : cc (j + 1) = 2 * cc j + 1 := rfl
   have hm1 : Lb * (2 * cc (j + 1) + 1) = 4 * (Lb * cc j) + 3 * Lb := by
    rw [hcc, show 2 * (2 * cc j + 1) + 1 = 4 * cc j + 3 by omega, Nat.mul_add, Nat.mul_left_comm]; omega
   have hm2 : Lb * cc (j + 1) = 2 * (Lb * cc j) + Lb := by rw [hcc, Nat.mul_add, Nat.mul_left_comm]; omega
   have hm3 : (Lb + Lb) * (2 * cc j + 1) = 4 * (Lb * cc j) + 2 * Lb := by
    rw [Nat.mul_add, Nat.add_mul, Nat.mul_left_comm]; omega
   have hm4 : (Lb + Lb) * cc j = 2 * (Lb * cc j) := by rw [Nat.add_mul]; omega
   rw [Nat.pow_succ] at he
   generalize Lb * cc j = g at *
   obtain ⟨n2, b2, ⟨k1, e1⟩, r1⟩ := rmul_gives hb hb (by omega) (by omega)
   dsimp only at e1
   have hdv2 : wrap64 (Int.tdiv (e : Int) 2) = ((e / 2 : Nat) : Int) := by
    rw [tdiv_pos (by omega), wrap_id (by omega) (by omega)]; omega
   have htm : Int.tmod (e : Int) 2 = ((e % 2 : Nat) : Int) := by rw [tmod_pos (by omega)]; omega
   by_cases hodd : e % 2 = 1
   ·obtain ⟨n1, a1, ⟨k2, e2⟩, r2⟩ := rmul_gives ha hb (by omega) (by omega)
    dsimp only at e2
    obtain ⟨n3, D, ⟨k3, e3⟩, r3⟩ := ih (e / 2) (La + Lb) (Lb + Lb) n1 n2 a1 b2 (x * y) (y * y) (by omega) (by omega) r2 r1 (by omega)
    dsimp only at e3
    refine ⟨n3, D, ⟨max (max k1 k2) k3 + 1, fun k hk => ?_⟩, ?_⟩
    ·obtain ⟨k, rfl⟩ : ∃ m, k = m + 1 := ⟨k - 1, by omega⟩
     show worldmintref05_Power.l0 (k + 1) (e : Int) an a bn b = _
     simp only [worldmintref05_Power.l0]
     rw [if_pos (by omega), htm, if_pos (by omega), e2 k (by omega), Option.bind_some, e1 k (by omega), Option.bind_some, hdv2]
     exact e3 k (by omega)
    ·have hv : x * y * (y * y) ^ (e / 2) = x * y ^ e := by
      rw [pow_sq, Int.mul_assoc, ← Int.pow_succ']
      congr 2
      omega
     rw [hv] at r3
     exact r3.mono (by omega)
   ·obtain ⟨n3, D, ⟨k3, e3⟩, r3⟩ := ih (e / 2) La (Lb + Lb) an n2 a b2 x (y * y) (by omega) (by omega) ha r1 (by omega)
    dsimp only at e3
    refine ⟨n3, D, ⟨max k1 k3 + 1, fun k hk => ?_⟩, ?_⟩
    ·obtain ⟨k, rfl⟩ : ∃ m, k = m + 1 := ⟨k - 1, by omega⟩
     show worldmintref05_Power.l0 (k + 1) (e : Int) an a bn b = _
     simp only [worldmintref05_Power.l0]
     rw [if_pos (by omega), htm, if_neg (by omega), e1 k (by omega), Option.bind_some, hdv2]
     exact e3 k (by omega)
    ·have hv : x * (y * y) ^ (e / 2) = x * y ^ e := by
      rw [pow_sq]
      congr 2
      omega
     rw [hv] at r3
     exact r3.mono (by omega)
end Go.Proofs.YtlceokefdihdkaaGreatDoor
namespace Go.Proofs.YtlceokefdihdkaaGreatDoor
open Go.RowKit Go.Proofs.YtlceokefdihdkaaGreatDoorW.PrintWords Go.Proofs.YtlceokefdihdkaaGreatDoorW.PrintLast Go.Proofs.YtlceokefdihdkaaGreatDoorW.PrintMore
open X Go.Lib
set_option linter.unusedSimpArgs false
set_option linter.unusedVariables false
theorem i64_bounds {n : Int} (h : (Lit.int .i64 n).wf = true) : -9223372036854775808 ≤ n ∧ n ≤ 9223372036854775807 := by
 simp only [Lit.wf, IntKind.min, IntKind.max, IntKind.signed, IntKind.bits, Bool.and_eq_true, decide_eq_true_eq, if_true] at h
 omega
def aroundOf (n m : Int) : Int := Int.tmod (if n < 0 then -(n + 1) else n) m
theorem around_eq (n m : Int) (hn : (Lit.int .i64 n).wf = true) (hm : 0 < m) : worldmintref01_Around.f n m = some (aroundOf n m) := by
 have hb := i64_bounds hn
 unfold worldmintref01_Around.f aroundOf
 by_cases h : n < 0
 ·rw [if_pos h, if_neg (by omega), if_pos h, wrap_id (n := n + 1) (by omega) (by omega), wrap_id (n := -(n + 1)) (by omega) (by omega)]
 ·rw [if_neg h, if_neg (by omega), if_neg h]
theorem around_bd (n m : Int) (hm : 0 < m) : 0 ≤ aroundOf n m ∧ aroundOf n m < m := by
 unfold aroundOf
 have h : 0 ≤ (if n < 0 then -(n + 1) else n) := by split <;> omega
 exact ⟨Int.tmod_nonneg _ h, Int.tmod_lt_of_pos _ hm⟩
theorem wf_i64 {n : Int} (h1 : -9223372036854775808 ≤ n) (h2 : n ≤ 9223372036854775807) : (Lit.int .i64 n).wf = true := by
 simp only [Lit.wf, IntKind.min, IntKind.max, IntKind.signed, IntKind.bits, Bool.and_eq_true, decide_eq_true_eq, if_true]
 omega
def wfI (l : List Int) : Prop := ∀ x ∈ l, (Lit.int .i64 x).wf = true
theorem pick_ex {l : List Int} (hl : wfI l) (i m : Int) (hm : 0 < m) : ∃ n, worldmintref01_Pick.f l i m = some n ∧ 0 ≤ n ∧ n < m := by
 unfold worldmintref01_Pick.f
 by_cases h1 : i < 0
 ·exact ⟨0, if_pos h1, by omega, by omega⟩
 ·by_cases h2 : i ≥ (l.length : Int)
  ·exact ⟨0, by rw [if_neg h1, if_pos h2], by omega, by omega⟩
  ·refine ⟨aroundOf (rd l i) m, ?_, around_bd _ _ hm⟩
   rw [if_neg h1, if_neg h2, if_pos (by omega), if_pos (by omega), around_eq _ _ ?_ hm]
   ·rfl
   ·have := rd_eq l i.toNat (by omega)
    rw [show ((i.toNat : Nat) : Int) = i by omega] at this
    rw [this]
    exact hl _ (List.getElem_mem _)
theorem power_gives (j : Nat) (e : Nat) (he : e < 2 ^ j) (hs : e < 9223372036854775808) (hj : 1 + 1 * (2 * cc j + 1) ≤ 900000) : GivesR (fun k => worldmintref05_Power.f k (e : Int)) (1 + cc j) (2 ^ e) := by
 obtain ⟨n1, a, h1, r1⟩ := of_small (n := 1) (by omega) (by omega)
 obtain ⟨n2, b, h2, r2⟩ := of_small (n := 2) (by omega) (by omega)
 obtain ⟨n3, D, h3, r3⟩ := power_l0 j e 1 1 n1 n2 a b 1 2 he hs r1 r2 hj
 rw [Int.one_mul, Nat.one_mul] at r3
 exact ⟨n3, D, Ev.bind h1 (Ev.bind h2 h3), r3⟩
theorem power_small (e : Nat) (he : e < 256) : GivesR (fun k => worldmintref05_Power.f k (e : Int)) 256 (2 ^ e) := power_gives 8 e he (by omega) (by decide)
theorem number_l0 {l : List Int} (hl : wfI l) (x1 : Int) (h0 : 0 ≤ x1 ∧ x1 ≤ 100) : ∀ (n i : Nat) (an : Bool) (a : List Int) (z : Int), i + n = 5 → RI 10000 (258 + i) an a z →
  ∃ w, GivesR (fun k => worldmintref05_Number.l0 k l x1 (i : Int) an a) 263 w := by
 intro n
 induction n with
 | zero =>
  intro i an a z hi ha
  obtain ⟨m, hm, m0, m1⟩ := pick_ex hl x1 5 (by omega)
  refine ⟨z, an, a, Ev.up (Ev.of_eq fun k => ?_), ha.mono (by omega)⟩
  simp only [worldmintref05_Number.l0]
  rw [hm, Option.bind_some, wrap_id (by omega) (by omega), if_neg (by omega)]
 | succ n ih =>
  intro i an a z hi ha
  obtain ⟨m, hm, m0, m1⟩ := pick_ex hl x1 5 (by omega)
  by_cases hlt : (i : Int) < 1 + m
  ·have hw1 : wrap64 (wrap64 (x1 + 1) + (i : Int)) = x1 + 1 + i := by rw [wrap_id (n := x1 + 1) (by omega) (by omega), wrap_id (by omega) (by omega)]
   obtain ⟨p, hp, p0, p1⟩ := pick_ex hl (x1 + 1 + i) 1000000 (by omega)
   have e1 : wrap64 (wrap64 (32 * Int.tmod p 7) + wrap64 (Int.tmod (wrap64 (Int.tdiv p 7)) 5 * 8)) = ((32 * (p % 7) + p / 7 % 5 * 8).toNat : Int) := by
    rw [tmod_pos p0, tdiv_pos p0, wrap_id (n := p / 7) (by omega) (by omega), tmod_pos (by omega), wrap_id (n := 32 * (p % 7)) (by omega) (by omega), wrap_id (n := p / 7 % 5 * 8) (by omega) (by omega), wrap_id (by omega) (by omega)]
    omega
   have e2 : wrap64 (Int.tmod (wrap64 (Int.tdiv p 35)) 9 - 4) = p / 35 % 9 - 4 := by
    rw [tdiv_pos p0, wrap_id (n := p / 35) (by omega) (by omega), tmod_pos (by omega), wrap_id (by omega) (by omega)]
   have e3 : wrap64 (Int.tmod (wrap64 (Int.tdiv p 315)) 5 - 2) = p / 315 % 5 - 2 := by
    rw [tdiv_pos p0, wrap_id (n := p / 315) (by omega) (by omega), tmod_pos (by omega), wrap_id (by omega) (by omega)]
   obtain ⟨n1, b1, g1, r1⟩ := power_small (32 * (p % 7) + p / 7 % 5 * 8).toNat (by omega)
   obtain ⟨n2, b2, g2, r2⟩ := of_small (n := p / 35 % 9 - 4) (by omega) (by omega)
   obtain ⟨n3, b3, g3, r3⟩ := rmul_gives r1 r2 (by omega) (by omega)
   obtain ⟨n4, b4, g4, r4⟩ := of_small (n := p / 315 % 5 - 2) (by omega) (by omega)
   obtain ⟨n5, b5, g5, r5⟩ := radd_gives r3 (r4.mono (show 1 ≤ 256 + 1 by omega)) (by omega)
   obtain ⟨n6, b6, g6, r6⟩ := radd_gives (ha.mono (show 258 + i ≤ 258 + i by omega)) (r5.mono (show 256 + 1 + 1 ≤ 258 + i by omega)) (by omega)
   obtain ⟨w, n7, b7, g7, r7⟩ := ih (i + 1) n6 b6 _ (by omega) (r6.mono (by omega))
   refine ⟨w, n7, b7, Ev.up ?_, r7⟩
   simp only [worldmintref05_Number.l0]
   refine Ev.bind0 hm ?_
   rw [wrap_id (n := 1 + m) (by omega) (by omega)]
   refine Ev.pos hlt ?_
   rw [hw1]
   refine Ev.bind0 hp ?_
   rw [e1, e2, e3, show wrap64 ((i : Int) + 1) = ((i + 1 : Nat) : Int) by rw [wrap_id (by omega) (by omega)]; omega]
   exact Ev.bind g1 (Ev.bind g2 (Ev.bind g3 (Ev.bind g4 (Ev.bind g5 (Ev.bind g6 g7)))))
  ·refine ⟨z, an, a, Ev.up (Ev.of_eq fun k => ?_), ha.mono (by omega)⟩
   simp only [worldmintref05_Number.l0]
   rw [hm, Option.bind_some, wrap_id (by omega) (by omega), if_neg (by omega)]
theorem number_gives {l : List Int} (hl : wfI l) (x1 : Int) (h0 : 0 ≤ x1 ∧ x1 ≤ 100) : ∃ w, GivesR (fun k => worldmintref05_Number.f k l x1) 263 w := by
 obtain ⟨w, h⟩ := number_l0 hl x1 h0 5 0 false [] 0 (by omega) (RI.zero _ _)
 exact ⟨w, h⟩
theorem RI.lt {L : Nat} {n : Bool} {D : List Int} {z : Int} (h : RI 10000 L n D z) : z < 10000 ^ L ∧ -(10000 ^ L) < z := by
 have h0 := bv_nonneg (by decide) h.wf
 have h1 := bv_lt (B := 10000) (by decide) h.wf
 have h2 : (10000 : Int) ^ D.length ≤ 10000 ^ L := by
  have := Nat.pow_le_pow_right (show 0 < 10000 by decide) h.len
  have e : ∀ n : Nat, (10000 : Int) ^ n = ((10000 ^ n : Nat) : Int) := fun n => by rw [Int.natCast_pow]; rfl
  rw [e, e]
  omega
 have hv := h.val
 split at hv <;> omega
theorem pow_lim : (10000 : Int) ^ 526 < lim := by unfold lim; decide +kernel
theorem RI.inL {L : Nat} {n : Bool} {D : List Int} {z : Int} (h : RI 10000 L n D z) (hL : L ≤ 526) : Go.Proofs.YtlceokefdihdkaaGreatDoor.inLim z := by
 have h1 := (h.mono hL).lt
 have := pow_lim
 exact ⟨by omega, by omega⟩
theorem txt_len {z : Int} {n : Nat} (hn : 0 < n) (h0 : z < 10000 ^ n) (h1 : -(10000 ^ n) < z) : (txt z).length ≤ 4 * n + 1 := by
 unfold txt
 have h : z.natAbs < 10 ^ (4 * n) := by
  rw [Nat.pow_mul]
  have : ((10 ^ 4 : Nat) ^ n : Nat) = ((10000 : Int) ^ n).toNat := by
   rw [show (10 ^ 4 : Nat) = 10000 from rfl, show (10000 : Int) = ((10000 : Nat) : Int) from rfl, ← Int.natCast_pow, Int.toNat_natCast]
  rw [this]
  omega
 have := dec_len_le (4 * n) z.natAbs (by omega) h
 rw [List.length_append]
 split <;> simp <;> omega
theorem wider_gives {L : Nat} {n : Bool} {D : List Int} {z : Int} (h : RI 10000 L n D z) (h0 : 0 < L) (hL : L ≤ 1249) (hz : inLim z) : ∃ m E, Ev (fun k => worldmintlaw05_wider.f k n D) (m, E, true) ∧ RI 4294967296 512 m E z := by
 have ht := text_ev h (by omega)
 have hb := h.lt
 have hlen := txt_len h0 hb.1 hb.2
 obtain ⟨m, E, he, hr⟩ := (xparse_ev (l := txt z) (by omega)).1 z (parse_txt z) hz
 refine ⟨m, E, ?_, hr⟩
 exact Ev.bind ht (Ev.bind he ((Ev.ok _).cast rfl))
end Go.Proofs.YtlceokefdihdkaaGreatDoor
namespace Go.Proofs.YtlceokefdihdkaaGreatDoor
open Go.RowKit Go.Proofs.YtlceokefdihdkaaGreatDoorW.PrintWords Go.Proofs.YtlceokefdihdkaaGreatDoorW.PrintLast Go.Proofs.YtlceokefdihdkaaGreatDoorW.PrintMore
open X Go.Lib
set_option linter.unusedSimpArgs false
set_option linter.unusedVariables false
theorem RI.lit (B : Int) (n : Bool) (D : List Int) (z : Int) (h : (∀ x ∈ D, 0 ≤ x ∧ x < B) ∧ D.getLast? ≠ some 0 ∧ (n = true → D ≠ []) ∧ z = (if n then -(bv B D) else bv B D)) (hl : D.length ≤ 512) : RI B 512 n D z :=
 ⟨h.1, fun x hx hx0 => h.2.1 (by rw [hx, hx0]), hl, h.2.2.1, h.2.2.2⟩
theorem from_is {n : Int} {s : Bool} {D : List Int} (h0 : -9223372036854775808 ≤ n) (h1 : n < 9223372036854775808) (h : RI 4294967296 512 s D n) : Ev (fun k => wide_From.f k n) (s, D) := by
 obtain ⟨m, E, he, hr⟩ := xfrom_gives h0 h1
 obtain ⟨q1, q2⟩ := hr.inj h (by decide)
 subst q1 q2
 exact he
theorem str_is {s : Bool} {D : List Int} {z : Int} {l : List UInt8} (h : RI 4294967296 512 s D z) (hl : parseZ l = some z) : wide_Int_String.f s D = some ⟨l.toArray⟩ := by
 rw [string_run h, txt_of_parse hl]
theorem r_m7 : RI 4294967296 512 true [7] (-7) := RI.lit _ _ _ _ (by decide) (by decide)
theorem r_7 : RI 4294967296 512 false [7] 7 := RI.lit _ _ _ _ (by decide) (by decide)
theorem r_2 : RI 4294967296 512 false [2] 2 := RI.lit _ _ _ _ (by decide) (by decide)
theorem r_m2 : RI 4294967296 512 true [2] (-2) := RI.lit _ _ _ _ (by decide) (by decide)
theorem r_m4 : RI 4294967296 512 true [4] (-4) := RI.lit _ _ _ _ (by decide) (by decide)
theorem r_m3 : RI 4294967296 512 true [3] (-3) := RI.lit _ _ _ _ (by decide) (by decide)
theorem r_1 : RI 4294967296 512 false [1] 1 := RI.lit _ _ _ _ (by decide) (by decide)
theorem r_32 : RI 4294967296 512 false [0, 1] 4294967296 := RI.lit _ _ _ _ (by decide) (by decide)
theorem r_64 : RI 4294967296 512 false [0, 0, 1] 18446744073709551616 := RI.lit _ _ _ _ (by decide) (by decide)
theorem div1 : Ev (fun k => wide_Div.f k true [7] false [2]) (true, [4], false, [1], 0) := Ev.of_mono (fun k => wide_Div.mono _ _ _ _ k) (k0 := 20) (by decide +kernel)
theorem div2 : Ev (fun k => wide_Div.f k false [7] true [2]) (true, [3], false, [1], 0) := Ev.of_mono (fun k => wide_Div.mono _ _ _ _ k) (k0 := 20) (by decide +kernel)
theorem small1 : Ev (fun k => wide_Int_Small.f k false [0, 0, 1]) (0, false) := Ev.of_mono (fun k => wide_Int_Small.mono _ _ k) (k0 := 20) (by decide +kernel)
theorem mul1 : Ev (fun k => wide_Mul.f k false [0, 1] false [0, 1]) (false, [0, 0, 1], 0) := by
 obtain ⟨n, D, he, hr⟩ := xmul_gives r_32 r_32 (by have := lim_big; constructor <;> omega)
 obtain ⟨q1, q2⟩ := hr.inj (D' := [0, 0, 1]) (neg' := false) (r_64) (by decide)
 subst q1 q2
 exact he
theorem lives_ev : Ev worldmintlaw05_lives.f true := by
 unfold worldmintlaw05_lives.f
 refine Ev.bind (from_is (by decide) (by decide) r_m7) ?_
 refine Ev.bind (from_is (by decide) (by decide) r_2) ?_
 refine Ev.bind div1 ?_
 refine Ev.bind (from_is (by decide) (by decide) r_7) ?_
 refine Ev.bind (from_is (by decide) (by decide) r_m2) ?_
 refine Ev.bind div2 ?_
 refine Ev.bind (from_is (by decide) (by decide) r_32) ?_
 refine Ev.bind (from_is (by decide) (by decide) r_32) ?_
 refine Ev.bind mul1 ?_
 refine Ev.bind small1 ?_
 refine Ev.bind ((xparse_ev (l := [45, 48]) (by decide)).2.2 (by decide)) ?_
 refine Ev.bind ((xparse_ev (l := [48, 49]) (by decide)).2.2 (by decide)) ?_
 refine Ev.pos rfl (Ev.pos rfl (Ev.pos rfl ?_))
 refine Ev.bind0 (str_is r_m4 (l := [45, 52]) (by decide)) (Ev.pos (by rw [ba_toList]) ?_)
 refine Ev.bind0 (str_is r_1 (l := [49]) (by decide)) (Ev.pos (by rw [ba_toList]) ?_)
 refine Ev.bind0 (str_is r_m3 (l := [45, 51]) (by decide)) (Ev.pos (by rw [ba_toList]) ?_)
 refine Ev.bind0 (str_is r_1 (l := [49]) (by decide)) (Ev.pos (by rw [ba_toList]) ?_)
 refine Ev.bind0 (str_is r_64 (l := [49, 56, 52, 52, 54, 55, 52, 52, 48, 55, 51, 55, 48, 57, 53, 53, 49, 54, 49, 54]) (by decide)) (Ev.pos (by rw [ba_toList]) ?_)
 refine Ev.neg (by decide) (Ev.pos rfl ?_)
 exact (Ev.ok _).cast rfl
end Go.Proofs.YtlceokefdihdkaaGreatDoor
