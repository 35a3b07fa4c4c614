/- The generated texts: Part, Text, Clean, Short, and the examples. -/
import Derived.Test.YtoogbggeghlkkaaDoorPlet
import Derived.Test.YtoogbggeghlkkaaDoorXx5
namespace Go.Proofs.YtoogbggeghlkkaaDoor.X
open Go.RowKit Go.Proofs.YtoogbggeghlkkaaDoorW.PrintWords Go.Proofs.YtoogbggeghlkkaaDoorW.PrintLast Go.Proofs.YtoogbggeghlkkaaDoorW.PrintMore
open Lex

theorem i64_bounds {n : Int} (h : (Lit.int .i64 n).wf = true) : -9223372036854775808 ≤ n ∧ n ≤ 9223372036854775807 := by
  simp only [Lit.wf, IntKind.min, IntKind.max, IntKind.signed, IntKind.bits, Bool.and_eq_true, decide_eq_true_eq, if_true] at h
  omega

def aroundOf (n m : Int) : Int := Int.tmod (if n < 0 then -(n + 1) else n) m
theorem around_eq (n m : Int) (hn : (Lit.int .i64 n).wf = true) (hm : 0 < m) : worldmintref01_Around.f n m = some (aroundOf n m) := by
  have hb := i64_bounds hn
  unfold worldmintref01_Around.f aroundOf
  by_cases h : n < 0
  · rw [if_pos h, if_neg (by omega), if_pos h, wrap_id (n := n + 1) (by omega) (by omega), wrap_id (n := -(n + 1)) (by omega) (by omega)]
  · rw [if_neg h, if_neg (by omega), if_neg h]
theorem around_bd (n m : Int) (hm : 0 < m) : 0 ≤ aroundOf n m ∧ aroundOf n m < m := by
  unfold aroundOf
  have h : 0 ≤ (if n < 0 then -(n + 1) else n) := by split <;> omega
  exact ⟨Int.tmod_nonneg _ h, Int.tmod_lt_of_pos _ hm⟩

def partList : List ByteArray := [(⟨#[97]⟩ : ByteArray), (⟨#[105, 114, 111, 110]⟩ : ByteArray), (⟨#[103, 111, 108, 100, 95, 50]⟩ : ByteArray), (⟨#[120]⟩ : ByteArray), (⟨#[49, 50]⟩ : ByteArray), (⟨#[48]⟩ : ByteArray), (⟨#[49, 48, 57, 57, 53, 49, 49, 54, 50, 55, 55, 55, 54]⟩ : ByteArray), (⟨#[48, 48, 55]⟩ : ByteArray), (⟨#[58]⟩ : ByteArray), (⟨#[59]⟩ : ByteArray), (⟨#[44]⟩ : ByteArray), (⟨#[40]⟩ : ByteArray), (⟨#[41]⟩ : ByteArray), (⟨#[123]⟩ : ByteArray), (⟨#[125]⟩ : ByteArray), (⟨#[61]⟩ : ByteArray), (⟨#[60]⟩ : ByteArray), (⟨#[62]⟩ : ByteArray), (⟨#[43]⟩ : ByteArray), (⟨#[46]⟩ : ByteArray), (⟨#[45, 62]⟩ : ByteArray), (⟨#[32]⟩ : ByteArray), (⟨#[10]⟩ : ByteArray), (⟨#[9]⟩ : ByteArray), (⟨#[35, 32, 99, 32, 34, 10]⟩ : ByteArray), (⟨#[35]⟩ : ByteArray), (⟨#[105, 116, 101, 109]⟩ : ByteArray), (⟨#[114, 117, 108, 101]⟩ : ByteArray), (⟨#[97, 50, 51, 52, 53, 54, 55, 56, 57, 48, 49, 50, 51, 52, 53, 54]⟩ : ByteArray), (⟨#[97, 50, 51, 52, 53, 54, 55, 56, 57, 48, 49, 50, 51, 52, 53, 54, 55]⟩ : ByteArray), (⟨#[49, 48, 57, 57, 53, 49, 49, 54, 50, 55, 55, 55, 55]⟩ : ByteArray), (⟨#[45]⟩ : ByteArray), (⟨#[65]⟩ : ByteArray), (⟨#[95]⟩ : ByteArray), (⟨#[195, 169]⟩ : ByteArray), (⟨#[13]⟩ : ByteArray)]
def sepList : List ByteArray := [(⟨#[32]⟩ : ByteArray), (⟨#[10]⟩ : ByteArray), (⟨#[10, 9]⟩ : ByteArray)]
def partOf (n : Int) : ByteArray := partList.getD (aroundOf n 36).toNat ByteArray.empty
theorem part_eq (n : Int) (hn : (Lit.int .i64 n).wf = true) : worldmintref07_Part.f n = some (partOf n) := by
  have hb := around_bd n 36 (by decide)
  have e : worldmintref07_Part.f n = (some partList).bind fun y153 => ((worldmintref01_Around.f n (y153.length : Int)).bind fun t156 => (if 0 ≤ t156 then (if t156 < (y153.length : Int) then (some (rdOf ByteArray.empty y153 t156)) else (none)) else (none))) := rfl
  have hl : (partList.length : Int) = 36 := by decide
  rw [e, Option.bind_some, hl, around_eq n 36 hn (by decide), Option.bind_some, if_pos hb.1, if_pos hb.2]
  rfl
theorem partList_size : ∀ x ∈ partList, x.size ≤ 17 := by decide
theorem getD_mem {α : Type} {l : List α} {i : Nat} {d : α} (h : i < l.length) : l.getD i d ∈ l := by
  rw [List.getD_eq_getElem?_getD, List.getElem?_eq_getElem h]
  exact List.getElem_mem h
theorem part_size (n : Int) : (partOf n).size ≤ 17 := by
  have hb := around_bd n 36 (by decide)
  refine partList_size _ (getD_mem ?_)
  show _ < 36
  omega

def textL (l : List Int) : List UInt8 := (l.take 24).flatMap fun n => (partOf n).data.toList
theorem ba_append (a b : ByteArray) : a ++ b = ⟨(a.data.toList ++ b.data.toList).toArray⟩ := by
  apply ByteArray.ext
  apply Array.ext'
  rw [ByteArray.data_append, Array.toList_append]
theorem rd_at (l : List Int) (i : Nat) (h : i < l.length) : rd l (i : Int) = l[i] := by
  unfold rd
  simp [List.getD, h]
theorem flat_len {α : Type} (f : Int → List α) (c : Nat) (hc : ∀ n, (f n).length ≤ c) (l : List Int) : (l.flatMap f).length ≤ c * l.length := by
  induction l with
  | nil => simp
  | cons x l ih =>
    rw [List.flatMap_cons, List.length_append, List.length_cons, Nat.mul_add]
    have := hc x
    omega

theorem text_l0_ev (l : List Int) (hw : ∀ x ∈ l, (Lit.int .i64 x).wf = true) (hl : l.length ≤ maxLen) : ∀ (n i : Nat) (out : ByteArray), 24 - i ≤ n → i ≤ 24 → i ≤ l.length → out.size ≤ 17 * i →
    Ev (fun k => worldmintref07_Text.l0 k l out i) ⟨(out.data.toList ++ ((l.take 24).drop i).flatMap fun n => (partOf n).data.toList).toArray⟩ := by
  have hm : maxLen = 9223372036854775807 := rfl
  intro n
  induction n with
  | zero =>
    intro i out h1 h2 h3 h4
    have hi : i = 24 := by omega
    refine Ev.up ?_
    simp only [worldmintref07_Text.l0]
    have e : (l.take 24).drop i = [] := List.drop_eq_nil_of_le (by rw [List.length_take]; omega)
    rw [e]
    by_cases h : (i : Int) < l.length
    · exact Ev.pos h (Ev.neg (by omega) ((Ev.ok _).cast (by simp)))
    · exact Ev.neg h ((Ev.ok _).cast (by simp))
  | succ n ih =>
    intro i out h1 h2 h3 h4
    refine Ev.up ?_
    simp only [worldmintref07_Text.l0]
    by_cases h : (i : Int) < l.length
    · have hi : i < l.length := by omega
      by_cases h24 : (i : Int) < 24
      · have hps := part_size l[i]
        refine Ev.pos h (Ev.pos h24 (Ev.pos (by omega) ?_))
        rw [rd_at l i hi, part_eq _ (hw _ (List.getElem_mem hi))]
        refine Ev.bind0 rfl (Ev.pos (by omega) ?_)
        rw [wrap_succ i (by omega)]
        refine (ih (i + 1) _ (by omega) (by omega) (by omega) (by rw [ByteArray.size_append]; omega)).cast ?_
        have e : (l.take 24).drop i = l[i] :: (l.take 24).drop (i + 1) := by
          rw [List.drop_eq_getElem_cons (by rw [List.length_take]; omega), List.getElem_take]
        rw [e, List.flatMap_cons, ByteArray.data_append, Array.toList_append, List.append_assoc]
      · have e : (l.take 24).drop i = [] := List.drop_eq_nil_of_le (by rw [List.length_take]; omega)
        rw [e]
        exact Ev.pos h (Ev.neg h24 ((Ev.ok _).cast (by simp)))
    · have e : (l.take 24).drop i = [] := List.drop_eq_nil_of_le (by rw [List.length_take]; omega)
      rw [e]
      exact Ev.neg h ((Ev.ok _).cast (by simp))
theorem text_ev (l : List Int) (hw : ∀ x ∈ l, (Lit.int .i64 x).wf = true) (hl : l.length ≤ maxLen) : Ev (fun k => worldmintref07_Text.f k l) ⟨(textL l).toArray⟩ := by
  have := text_l0_ev l hw hl 24 0 ⟨#[]⟩ (by omega) (by omega) (by omega) (by decide)
  exact this
theorem textL_len (l : List Int) : (textL l).length ≤ 408 := by
  have h := flat_len (fun n => (partOf n).data.toList) 17 (fun n => by rw [toList_size]; exact part_size n) (l.take 24)
  rw [List.length_take] at h
  unfold textL
  omega

def sepOf (n : Int) : ByteArray := sepList.getD (aroundOf (Int.tdiv n 29) 3).toNat ByteArray.empty
def cleanB (n : Int) : List UInt8 := (partOf (aroundOf n 29)).data.toList ++ (sepOf n).data.toList
def cleanL (l : List Int) : List UInt8 := (l.take 24).flatMap cleanB
theorem sepList_size : ∀ x ∈ sepList, x.size ≤ 2 := by decide
theorem sep_size (n : Int) : (sepOf n).size ≤ 2 := by
  have hb := around_bd (Int.tdiv n 29) 3 (by decide)
  refine sepList_size _ (getD_mem ?_)
  show _ < 3
  omega
theorem tdiv_bd {n : Int} (hn : (Lit.int .i64 n).wf = true) : -9223372036854775808 ≤ Int.tdiv n 29 ∧ Int.tdiv n 29 ≤ 9223372036854775807 := by
  have hb := i64_bounds hn
  rcases Int.le_total 0 n with h | h
  · rw [Int.tdiv_eq_ediv_of_nonneg h]; omega
  · have : Int.tdiv n 29 = -(Int.tdiv (-n) 29) := by rw [Int.neg_tdiv]; omega
    rw [this, Int.tdiv_eq_ediv_of_nonneg (by omega)]; omega
theorem wf_i64 {n : Int} (h1 : -9223372036854775808 ≤ n) (h2 : n ≤ 9223372036854775807) : (Lit.int .i64 n).wf = true := by
  simp only [Lit.wf, IntKind.min, IntKind.max, IntKind.signed, IntKind.bits, Bool.and_eq_true, decide_eq_true_eq, if_true]
  omega

theorem clean_l0_ev (l : List Int) (hw : ∀ x ∈ l, (Lit.int .i64 x).wf = true) (hl : l.length ≤ maxLen) : ∀ (n i : Nat) (out : ByteArray), 24 - i ≤ n → i ≤ 24 → i ≤ l.length → out.size ≤ 19 * i →
    Ev (fun k => worldmintref07_Clean.l0 k l out i) ⟨(out.data.toList ++ ((l.take 24).drop i).flatMap cleanB).toArray⟩ := by
  have hm : maxLen = 9223372036854775807 := rfl
  have stop : ∀ (i : Nat) (out : ByteArray), (l.take 24).drop i = [] → (¬ (i : Int) < l.length ∨ ¬ (i : Int) < 24) → Ev (fun k => worldmintref07_Clean.l0 k l out i) ⟨(out.data.toList ++ ((l.take 24).drop i).flatMap cleanB).toArray⟩ := by
    intro i out e h
    rw [e]
    refine Ev.up ?_
    simp only [worldmintref07_Clean.l0]
    have fin : Ev (fun k => worldmintref07_Clean.j1 k l out i false) ⟨(out.data.toList ++ ([] : List Int).flatMap cleanB).toArray⟩ := by
      refine Ev.up ?_
      simp only [worldmintref07_Clean.j1]
      exact Ev.neg (by decide) ((Ev.ok _).cast (by simp))
    by_cases h1 : (i : Int) < l.length
    · refine Ev.pos h1 ?_
      have : decide ((i : Int) < 24) = false := by
        rcases h with h | h
        · exact absurd h1 h
        · simpa using h
      rw [this]; exact fin
    · exact Ev.neg h1 fin
  intro n
  induction n with
  | zero =>
    intro i out h1 h2 h3 h4
    exact stop i out (List.drop_eq_nil_of_le (by rw [List.length_take]; omega)) (.inr (by omega))
  | succ n ih =>
    intro i out h1 h2 h3 h4
    by_cases h : (i : Int) < l.length
    · have hi : i < l.length := by omega
      by_cases h24 : (i : Int) < 24
      · have hwi := hw _ (List.getElem_mem hi)
        have ha := around_bd l[i] 29 (by decide)
        have hb := around_bd (Int.tdiv l[i] 29) 3 (by decide)
        have hps := part_size (aroundOf l[i] 29)
        have hss := sep_size l[i]
        have htd := tdiv_bd hwi
        refine Ev.up ?_
        simp only [worldmintref07_Clean.l0]
        refine Ev.pos h (Ev.up ?_)
        simp only [worldmintref07_Clean.j1]
        refine Ev.pos (by simpa using h24) (Ev.pos (by omega) (Ev.pos h ?_))
        rw [rd_at l i hi, around_eq _ 29 hwi (by decide)]
        refine Ev.bind0 rfl ?_
        rw [part_eq _ (wf_i64 (by omega) (by omega))]
        refine Ev.bind0 rfl (Ev.pos (by omega) (Ev.bind0 (x := sepList) rfl ?_))
        rw [wrap_id (by omega) (by omega), around_eq _ 3 (wf_i64 (by omega) (by omega)) (by decide)]
        have hsl : (sepList.length : Int) = 3 := by decide
        have hrd : rdOf ByteArray.empty sepList (aroundOf (Int.tdiv l[i] 29) 3) = sepOf l[i] := rfl
        refine Ev.bind0 rfl (Ev.pos hb.1 (Ev.pos (by rw [hsl]; exact hb.2) ?_))
        rw [hrd]
        refine Ev.pos (by omega) ?_
        rw [wrap_succ i (by omega)]
        refine (ih (i + 1) _ (by omega) (by omega) (by omega) (by rw [ByteArray.size_append, ByteArray.size_append]; omega)).cast ?_
        have e : (l.take 24).drop i = l[i] :: (l.take 24).drop (i + 1) := by
          rw [List.drop_eq_getElem_cons (by rw [List.length_take]; omega), List.getElem_take]
        rw [e, List.flatMap_cons, ByteArray.data_append, Array.toList_append, ByteArray.data_append, Array.toList_append]
        unfold cleanB
        simp only [List.append_assoc]
      · exact stop i out (List.drop_eq_nil_of_le (by rw [List.length_take]; omega)) (.inr h24)
    · exact stop i out (List.drop_eq_nil_of_le (by rw [List.length_take]; omega)) (.inl h)
theorem clean_ev (l : List Int) (hw : ∀ x ∈ l, (Lit.int .i64 x).wf = true) (hl : l.length ≤ maxLen) : Ev (fun k => worldmintref07_Clean.f k l) ⟨(cleanL l).toArray⟩ := by
  have := clean_l0_ev l hw hl 24 0 ⟨#[]⟩ (by omega) (by omega) (by omega) (by decide)
  exact this
theorem cleanL_len (l : List Int) : (cleanL l).length ≤ 456 := by
  have h := flat_len cleanB 19 (fun n => by
    have h1 := part_size (aroundOf n 29)
    have h2 := sep_size n
    unfold cleanB
    rw [List.length_append, toList_size, toList_size]
    omega) (l.take 24)
  rw [List.length_take] at h
  unfold cleanL
  omega

theorem short_eq (s : ByteArray) (m : Nat) : ∃ t, worldmintref01_Short.f s m = some t ∧ t.size ≤ m := by
  unfold worldmintref01_Short.f
  by_cases h : (s.size : Int) > m
  · rw [if_pos h, if_pos (by omega), if_pos (by omega)]
    exact ⟨_, rfl, by rw [ByteArray.size_extract]; omega⟩
  · rw [if_neg h]
    exact ⟨s, rfl, by omega⟩

theorem lives_eq : worldmintlaw07_lives.f = some true := by decide +kernel
end Go.Proofs.YtoogbggeghlkkaaDoor.X
