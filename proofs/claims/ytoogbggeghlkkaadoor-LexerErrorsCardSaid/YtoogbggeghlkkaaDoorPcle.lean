/- The tokens of clean texts; tokens written again with blanks between them. -/
import Derived.Test.YtoogbggeghlkkaaDoorPstr
namespace Go.Proofs.YtoogbggeghlkkaaDoor.X
open Go.RowKit Go.Proofs.YtoogbggeghlkkaaDoorW.PrintWords Go.Proofs.YtoogbggeghlkkaaDoorW.PrintLast Go.Proofs.YtoogbggeghlkkaaDoorW.PrintMore
open Lex

def isInr (x : Int ⊕ Tok) : Bool := match x with | .inr _ => true | .inl _ => false
def goodPiece (c : Bool) (x : List UInt8) : Bool := match scan 10 c x 0 with | some (_, ts) => ts.all fun t => isInr (eat t) | none => false
theorem good_pieces : ∀ a ∈ partList.take 29, ∀ b ∈ sepList, ∀ c : Bool, goodPiece c (a.data.toList ++ b.data.toList) = true := by decide +kernel
theorem eats_of_all : ∀ ts : List Tk, ts.all (fun t => isInr (eat t)) = true → ∃ us, Eats ts us := by
  intro ts
  induction ts with
  | nil => intro _; exact ⟨[], rfl⟩
  | cons t ts ih =>
    intro h
    simp only [List.all_cons, Bool.and_eq_true] at h
    obtain ⟨us, hus⟩ := ih h.2
    cases he : eat t with
    | inl e => rw [he] at h; cases h.1
    | inr u => exact ⟨u :: us, u, us, he, hus, rfl⟩
theorem itsC_shift (q : Nat) (c : Bool) (r : List UInt8) (p : Nat) : itsC c r (p + q) = (itsC c r p).map (shiftTk q) := by
  unfold itsC
  rw [← its_shift]
  congr 1
  omega
theorem piece_its (n : Int) (c : Bool) : ∃ c' ts us, (∀ rest p, itsC c (cleanB n ++ rest) p = ts.map (shiftTk p) ++ itsC c' rest (p + (cleanB n).length)) ∧ Eats ts us := by
  have ha := around_bd n 29 (by decide)
  have hb := around_bd (Int.tdiv n 29) 3 (by decide)
  have e36 : aroundOf (aroundOf n 29) 36 = aroundOf n 29 := by
    obtain ⟨x, hx⟩ : ∃ x, aroundOf n 29 = x := ⟨_, rfl⟩
    rw [hx] at ha ⊢
    unfold aroundOf
    rw [if_neg (by omega)]
    exact Int.tmod_eq_of_lt ha.1 (by omega)
  have h1 : partOf (aroundOf n 29) ∈ partList.take 29 := by
    unfold partOf
    rw [e36]
    have hl : (partList.take 29).length = 29 := by decide
    have e : partList.getD (aroundOf n 29).toNat ByteArray.empty = (partList.take 29).getD (aroundOf n 29).toNat ByteArray.empty := by
      rw [List.getD_eq_getElem?_getD, List.getD_eq_getElem?_getD, List.getElem?_take_of_lt (by omega)]
    rw [e]
    exact getD_mem (by omega)
  have h2 : sepOf n ∈ sepList := by
    unfold sepOf
    refine getD_mem ?_
    show _ < 3
    omega
  have h := good_pieces _ h1 _ h2 c
  unfold goodPiece at h
  have ec : (partOf (aroundOf n 29)).data.toList ++ (sepOf n).data.toList = cleanB n := rfl
  rw [ec] at h
  cases hs : scan 10 c (cleanB n) 0 with
  | none => rw [hs] at h; cases h
  | some r =>
    obtain ⟨c', ts⟩ := r
    rw [hs] at h
    obtain ⟨us, hus⟩ := eats_of_all ts h
    refine ⟨c', ts, us, fun rest p => ?_, hus⟩
    have := scan_its 10 c (cleanB n) rest 0 c' ts hs
    have e1 := itsC_shift p c (cleanB n ++ rest) 0
    rw [Nat.zero_add] at e1
    rw [e1, this, List.map_append, ← itsC_shift]
    congr 2
    omega
theorem clean_its : ∀ (ns : List Int) (c : Bool), ∃ c' ts us, (∀ rest p, itsC c (ns.flatMap cleanB ++ rest) p = ts.map (shiftTk p) ++ itsC c' rest (p + (ns.flatMap cleanB).length)) ∧ Eats ts us := by
  intro ns
  induction ns with
  | nil => intro c; exact ⟨c, [], [], fun rest p => rfl, rfl⟩
  | cons n ns ih =>
    intro c
    obtain ⟨c1, ts1, us1, h1, g1⟩ := piece_its n c
    obtain ⟨c2, ts2, us2, h2, g2⟩ := ih c1
    refine ⟨c2, ts1 ++ ts2.map (shiftTk (cleanB n).length), _, fun rest p => ?_, eats_append g1 (eats_shift _ g2)⟩
    rw [List.flatMap_cons, List.append_assoc, h1, h2, List.map_append, List.map_map, List.append_assoc, List.length_append, Nat.add_assoc]
    congr 2
    apply List.map_congr_left
    intro x _
    unfold shiftTk
    simp only [Function.comp]
    congr 1
    omega
theorem shift_zero (l : List Tk) : l.map (shiftTk 0) = l := by
  have : shiftTk 0 = id := by funext x; rfl
  rw [this, List.map_id]
/-- A clean text's pieces, in front of any rest. -/
theorem cleanL_its (l : List Int) : ∃ c' ts us, (∀ rest p, its (cleanL l ++ rest) p = ts.map (shiftTk p) ++ itsC c' rest (p + (cleanL l).length)) ∧ Eats ts us ∧ its (cleanL l) 0 = ts ∧ tokens (cleanL l) = (us, 0, 0) := by
  obtain ⟨c', ts, us, h, g⟩ := clean_its (l.take 24) false
  have h0 : ∀ rest p, its (cleanL l ++ rest) p = ts.map (shiftTk p) ++ itsC c' rest (p + (cleanL l).length) := fun rest p => by
    rw [← itsC_false]; exact h rest p
  have e : its (cleanL l) 0 = ts := by
    have := h0 [] 0
    rw [List.append_nil, shift_zero] at this
    rw [this]
    have : itsC c' [] (0 + (cleanL l).length) = [] := rfl
    rw [this, List.append_nil]
  refine ⟨c', ts, us, h0, g, e, tokens_of_eats (by have := cleanL_len l; omega) (by rw [e]; exact g)⟩
theorem itsC_nl (c : Bool) (r : List UInt8) (p : Nat) : itsC c (10 :: r) p = its r (p + 1) := by
  rw [← itsC_false]
  unfold itsC
  have e : skipN c (10 :: r) = 1 + skipN false r := by simp [skipN]
  rw [e, drop_1]
  congr 1
  omega
end Go.Proofs.YtoogbggeghlkkaaDoor.X
