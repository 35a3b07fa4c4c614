/- Printed functions with rounds: what they give once there are rounds enough. Plain lemmas. -/
import Derived.Test.YtmahdomlmidfdaaDoorWWords
namespace Go.Proofs.YtmahdomlmidfdaaDoor
open Go.RowKit Go.Proofs.YtmahdomlmidfdaaDoorW.PrintWords

/-- With rounds enough, f gives x. -/
def Ev {α : Type} (f : Nat → Option α) (x : α) : Prop := ∃ k0, ∀ k, k0 ≤ k → f k = some x
namespace Ev
variable {α β : Type}
theorem ok (x : α) : Ev (fun _ => some x) x := ⟨0, fun _ _ => rfl⟩
theorem of_eq {f : Nat → Option α} {x : α} (h : ∀ k, f k = some x) : Ev f x := ⟨0, fun k _ => h k⟩
theorem ex {f : Nat → Option α} {x : α} (h : Ev f x) : ∃ k, f k = some x := by obtain ⟨k0, h⟩ := h; exact ⟨k0, h k0 (Nat.le_refl _)⟩
theorem up {f : Nat → Option α} {x : α} (h : Ev (fun k => f (k + 1)) x) : Ev f x := by
  obtain ⟨k0, h⟩ := h
  refine ⟨k0 + 1, fun k hk => ?_⟩
  obtain ⟨j, rfl⟩ : ∃ j, k = j + 1 := ⟨k - 1, by omega⟩
  exact h j (by omega)
theorem of_mono {f : Nat → Option α} {x : α} (m : ∀ k, LeO (f k) (f (k + 1))) {k0 : Nat} (h : f k0 = some x) : Ev f x := by
  refine ⟨k0, fun k hk => ?_⟩
  induction hk with
  | refl => exact h
  | step _ ih => exact m _ _ ih
theorem bind {f : Nat → Option α} {g : Nat → α → Option β} {x : α} {y : β} (h : Ev f x) (k : Ev (fun k => g k x) y) : Ev (fun k => (f k).bind (g k)) y := by
  obtain ⟨a, ha⟩ := h
  obtain ⟨b, hb⟩ := k
  refine ⟨max a b, fun k hk => ?_⟩
  show (f k).bind (g k) = some y
  rw [ha k (by omega)]
  exact hb k (by omega)
/-- The first step has no rounds. -/
theorem bind0 {v : Option α} {g : Nat → α → Option β} {x : α} {y : β} (h : v = some x) (k : Ev (fun k => g k x) y) : Ev (fun k => v.bind (g k)) y := by
  subst h
  exact k
theorem pos {c : Prop} [Decidable c] {t e : Nat → Option α} {x : α} (h : c) (k : Ev t x) : Ev (fun k => if c then t k else e k) x := by
  obtain ⟨a, ha⟩ := k
  exact ⟨a, fun k hk => (if_pos h).trans (ha k hk)⟩
theorem neg {c : Prop} [Decidable c] {t e : Nat → Option α} {x : α} (h : ¬ c) (k : Ev e x) : Ev (fun k => if c then t k else e k) x := by
  obtain ⟨a, ha⟩ := k
  exact ⟨a, fun k hk => (if_neg h).trans (ha k hk)⟩
theorem cast {f : Nat → Option α} {x y : α} (h : Ev f x) (e : x = y) : Ev f y := e ▸ h
theorem of {f g : Nat → Option α} {x : α} (h : Ev f x) (e : ∀ k, g k = f k) : Ev g x := by
  obtain ⟨a, ha⟩ := h
  exact ⟨a, fun k hk => (e k).trans (ha k hk)⟩
theorem det {f : Nat → Option α} {x y : α} (h : Ev f x) (k : Ev f y) : x = y := by
  obtain ⟨a, ha⟩ := h
  obtain ⟨b, hb⟩ := k
  exact Option.some.inj ((ha (max a b) (by omega)).symm.trans (hb (max a b) (by omega)))
end Ev

theorem wrap_id {n : Int} (h : -9223372036854775808 ≤ n) (h2 : n < 9223372036854775808) : wrap64 n = n := by unfold wrap64; omega
theorem wrap_succ (p : Nat) (h : p < 4611686018427387904) : wrap64 ((p : Int) + 1) = ((p + 1 : Nat) : Int) := by unfold wrap64; omega
theorem toList_size (s : ByteArray) : s.data.toList.length = s.size := Array.length_toList
/-- A byte of a string, by what stands from there on. -/
theorem bt_drop {s : ByteArray} {p : Nat} {c : UInt8} {r : List UInt8} (h : s.data.toList.drop p = c :: r) :
    p < s.size ∧ bt s p = (c.toNat : Int) ∧ s.data.toList.drop (p + 1) = r ∧ s.data.toList.length = s.size := by
  have hl := toList_size s
  have hp : p < s.data.toList.length := by
    rcases Nat.lt_or_ge p s.data.toList.length with h1 | h1
    · exact h1
    · rw [List.drop_eq_nil_of_le h1] at h; cases h
  have h2 : s.data.toList[p]? = some c := by rw [← List.head?_drop, h]; rfl
  have h3 : s.data.toList.drop (p + 1) = r := by rw [← List.tail_drop, h]; rfl
  refine ⟨by omega, ?_, h3, hl⟩
  unfold bt
  have hp2 : (p : Int).toNat < s.size := by omega
  rw [dif_pos hp2]
  have h4 : s[(p : Int).toNat] = c := by
    have e : s[(p : Int).toNat] = s.data.toList[p]'hp := by
      simp [ByteArray.getElem_eq_getElem_data]
    rw [e]
    exact (List.getElem?_eq_some_iff.1 h2).2
  rw [h4]
theorem drop_nil {s : ByteArray} {p : Nat} (h : s.data.toList.drop p = []) : s.size ≤ p := by
  have hl := toList_size s
  have := List.drop_eq_nil_iff.1 h
  omega
end Go.Proofs.YtmahdomlmidfdaaDoor
