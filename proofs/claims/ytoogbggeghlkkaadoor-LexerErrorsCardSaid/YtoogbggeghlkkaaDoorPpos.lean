/- The reference's Position is the lexer's. -/
import Derived.Test.YtoogbggeghlkkaaDoorXx8
import Derived.Test.YtoogbggeghlkkaaDoorPgen
namespace Go.Proofs.YtoogbggeghlkkaaDoor.X
open Go.RowKit Go.Proofs.YtoogbggeghlkkaaDoorW.PrintWords Go.Proofs.YtoogbggeghlkkaaDoorW.PrintLast Go.Proofs.YtoogbggeghlkkaaDoorW.PrintMore

theorem bt_data (s : ByteArray) (i : Nat) (h : i < s.size) : bt s i = ((s.data[i]!).toNat : Int) := by
  unfold bt
  have h2 : (i : Int).toNat < s.size := by omega
  rw [dif_pos h2]
  have h3 : i < s.data.size := h
  have e : s[(i : Int).toNat] = s.data[i]! := by
    rw [getElem!_pos s.data i h3]
    rfl
  rw [e]
theorem lastIdx_local (s t : ByteArray) (c : Int) : ∀ m : Nat, (∀ j, j < m → s.data[j]! = t.data[j]!) → Lib.lastIdx s c m = Lib.lastIdx t c m := by
  intro m
  induction m with
  | zero => intro _; rfl
  | succ m ih =>
    intro h
    unfold Lib.lastIdx
    rw [h m (by omega), ih (fun j hj => h j (by omega))]
theorem lastIdx_bd2 (s : ByteArray) (c : Int) (m : Nat) : -1 ≤ Lib.lastIdx s c m ∧ Lib.lastIdx s c m < m := by
  rcases Lib.lastIdx_spec s c m with ⟨h, _⟩ | ⟨i, h1, h2, _⟩ <;> omega
def cnt (s : ByteArray) : Nat → Nat
  | 0 => 0
  | k + 1 => if s.data[k]! = 10 then cnt s k + 1 else cnt s k
theorem cnt_le (s : ByteArray) (k : Nat) : cnt s k ≤ k := by
  induction k with
  | zero => simp [cnt]
  | succ k ih => unfold cnt; split <;> omega

/-- How far Position looks. -/
def upto (s : ByteArray) (a : Int) : Nat := (max 0 (min a s.size)).toNat
theorem upto_le (s : ByteArray) (a : Int) : upto s a ≤ s.size := by unfold upto; omega

theorem pos_ev (s : ByteArray) (hs : s.size < 1000000) (a : Int) : ∀ (n i : Nat), s.size - i ≤ n → i ≤ upto s a →
    Ev (fun k => worldmintref07_Position.l0 k s a (1 + (cnt s i : Nat)) ((i : Int) - Lib.lastIdx s 10 i) (i : Int)) ((1 + ((cnt s (upto s a) : Nat) : Int) : Int), (upto s a : Int) - Lib.lastIdx s 10 (upto s a)) := by
  intro n
  have fin : ∀ i, i = upto s a → Ev (fun k => worldmintref07_Position.l0 k s a (1 + (cnt s i : Nat)) ((i : Int) - Lib.lastIdx s 10 i) (i : Int)) ((1 + ((cnt s (upto s a) : Nat) : Int) : Int), (upto s a : Int) - Lib.lastIdx s 10 (upto s a)) := by
    intro i hi
    have f2 : Ev (fun k => worldmintref07_Position.j1 k s a (1 + (cnt s i : Nat)) ((i : Int) - Lib.lastIdx s 10 i) (i : Int) false) ((1 + ((cnt s (upto s a) : Nat) : Int) : Int), (upto s a : Int) - Lib.lastIdx s 10 (upto s a)) := by
      refine Ev.up ?_
      simp only [worldmintref07_Position.j1]
      exact Ev.neg (by decide) ((Ev.ok _).cast (by rw [hi]))
    refine Ev.up ?_
    simp only [worldmintref07_Position.l0]
    by_cases h : (i : Int) < s.size
    · have : decide ((i : Int) < a) = false := by
        have : ¬ (i : Int) < a := by unfold upto at hi; omega
        simpa using this
      rw [this]
      exact Ev.pos h f2
    · exact Ev.neg h f2
  induction n with
  | zero =>
    intro i h1 h2
    have := upto_le s a
    exact fin i (by omega)
  | succ n ih =>
    intro i h1 h2
    by_cases h : i = upto s a
    · exact fin i h
    · have hu := upto_le s a
      have hi : i < s.size := by omega
      have hia : (i : Int) < a := by unfold upto at *; omega
      have hl := lastIdx_bd2 s 10 i
      have hcl := cnt_le s i
      refine Ev.up ?_
      simp only [worldmintref07_Position.l0]
      have hd : decide ((i : Int) < a) = true := by simpa using hia
      rw [hd]
      refine Ev.pos (by omega) (Ev.up ?_)
      simp only [worldmintref07_Position.j1, bt_data s i hi]
      refine Ev.pos (by trivial) (Ev.pos (by omega) (Ev.pos (by omega) ?_))
      have next := ih (i + 1) (by omega) (by omega)
      rw [wrap_succ i (by omega)]
      by_cases h10 : s.data[i]! = 10
      · refine Ev.pos (by rw [h10]; rfl) ?_
        have e1 : Lib.lastIdx s 10 (i + 1) = i := Lib.lastIdx_hit s 10 i (by rw [h10]; rfl)
        have e2 : cnt s (i + 1) = cnt s i + 1 := by simp only [cnt, if_pos h10]
        rw [e1, e2] at next
        have e3 : wrap64 (1 + (cnt s i : Nat) + 1) = 1 + ((cnt s i + 1 : Nat) : Int) := by rw [wrap_id (by omega) (by omega)]; omega
        have e4 : ((i + 1 : Nat) : Int) - (i : Int) = 1 := by omega
        rw [e4] at next
        rw [e3]
        exact next
      · have h10' : ¬ ((s.data[i]!).toNat : Int) = 10 := fun e => h10 ((byte_eq _ 10 (by decide)).1 e)
        refine Ev.neg h10' ?_
        have e1 : Lib.lastIdx s 10 (i + 1) = Lib.lastIdx s 10 i := Lib.lastIdx_miss s 10 i h10'
        have e2 : cnt s (i + 1) = cnt s i := by simp only [cnt, if_neg h10]
        rw [e1, e2] at next
        have e3 : wrap64 ((i : Int) - Lib.lastIdx s 10 i + 1) = ((i + 1 : Nat) : Int) - Lib.lastIdx s 10 i := by rw [wrap_id (by omega) (by omega)]; omega
        rw [e3]
        exact next

theorem ext_get (s : ByteArray) (m j : Nat) (hm : m ≤ s.size) (hj : j < m) : (s.extract 0 m).data[j]! = s.data[j]! := by
  have h3 : j < s.data.size := by show j < s.size; omega
  have h4 : j < (s.extract 0 m).data.size := by show j < (s.extract 0 m).size; rw [ByteArray.size_extract]; omega
  rw [getElem!_pos _ j h4, getElem!_pos _ j h3]
  simp only [ByteArray.data_extract, Array.getElem_extract, Nat.zero_add]
theorem cnt_count (s : ByteArray) : ∀ m, m ≤ s.size → cnt s m = (s.data.toList.take m).count 10 := by
  intro m
  induction m with
  | zero => intro _; simp [cnt]
  | succ m ih =>
    intro h
    have h3 : m < s.data.toList.length := by rw [toList_size]; omega
    have h4 : m < s.data.size := by show m < s.size; omega
    rw [List.take_add_one, List.getElem?_eq_getElem h3, List.count_append, ← ih (by omega)]
    have e : s.data[m]! = s.data.toList[m] := by rw [getElem!_pos _ m h4, Array.getElem_toList]
    have ec : cnt s (m + 1) = if s.data[m]! = 10 then cnt s m + 1 else cnt s m := rfl
    rw [ec, e]
    have eo : (some s.data.toList[m]).toList = [s.data.toList[m]] := rfl
    rw [eo, List.count_singleton]
    by_cases h10 : s.data.toList[m] = 10
    · rw [if_pos h10, if_pos (by simpa using h10)]
    · rw [if_neg h10, if_neg (by simpa using h10)]
      omega

theorem lex_pos_eq (s : ByteArray) (hs : s.size < 1000000) (a : Int) : lexer_Position.f s a = some ((1 + ((cnt s (upto s a) : Nat) : Int) : Int), (upto s a : Int) - Lib.lastIdx s 10 (upto s a)) := by
  unfold lexer_Position.f
  have hu := upto_le s a
  have hz : (s.extract 0 (upto s a)).size = upto s a := by rw [ByteArray.size_extract]; omega
  rw [if_pos (by omega)]
  show some (1 + (((s.extract 0 (upto s a)).data.toList.count 10 : Nat) : Int), ((s.extract 0 (upto s a)).size : Int) - Lib.lastIndexByte (s.extract 0 (upto s a)) 10) = _
  unfold Lib.lastIndexByte
  rw [hz, lastIdx_local (s.extract 0 (upto s a)) s 10 (upto s a) (fun j hj => ext_get s _ j hu hj), cnt_count s _ hu]
  have e : (s.extract 0 (upto s a)).data.toList = s.data.toList.take (upto s a) := by
    have := extract_eq s 0 (upto s a)
    rw [Nat.zero_add, List.drop_zero] at this
    rw [this]
  rw [e]
theorem ref_pos_ev (s : ByteArray) (hs : s.size < 1000000) (a : Int) : Ev (fun k => worldmintref07_Position.f k s a) ((1 + ((cnt s (upto s a) : Nat) : Int) : Int), (upto s a : Int) - Lib.lastIdx s 10 (upto s a)) := by
  have := pos_ev s hs a s.size 0 (by omega) (by omega)
  exact this
end Go.Proofs.YtoogbggeghlkkaaDoor.X
