/- lexer.Tokens and lexer.Position, in the printed functions' form. -/
import Derived.Test.YtoogbggeghlkkaaDoorXx0
import Derived.Test.YtoogbggeghlkkaaDoorLext
namespace Go.Proofs.YtoogbggeghlkkaaDoor.X
open Go.RowKit Go.Proofs.YtoogbggeghlkkaaDoorW.PrintWords Go.Proofs.YtoogbggeghlkkaaDoorW.PrintLast Go.Proofs.YtoogbggeghlkkaaDoorW.PrintMore

def ofTok (t : Lex.Tok) : S41 := ⟨t.kind, ⟨t.text.toArray⟩, t.n, t.at_⟩
def lexer_Tokens.f (a0 : ByteArray) : Option (List S41 × Int × Int) :=
  some ((Lex.tokens a0.data.toList).1.map ofTok, (Lex.tokens a0.data.toList).2.1, (Lex.tokens a0.data.toList).2.2)

theorem reps_toks (w : World) (base : Nat) (ok : Nat → Prop) (l : List Lex.Tok) : Reps (k41.M w base ok) 4 (l.map ofTok) (l.flatMap tokc) := by
  refine ⟨?_, ?_⟩
  · induction l with
    | nil => rfl
    | cons t l ih => simp only [List.map_cons, List.flatMap_cons, List.length_append, List.length_cons, ih]; simp [tokc]; omega
  · induction l with
    | nil => intro j p h; simp at h
    | cons t l ih =>
      intro j p h
      cases j with
      | zero =>
        simp at h
        subst h
        simp only [Nat.zero_mul, List.drop_zero, List.flatMap_cons]
        exact k41_mkM w base ok (ofTok t)
      | succ j =>
        have h1 := ih j p (by simpa using h)
        have e : (List.flatMap tokc (t :: l)).drop ((j + 1) * 4) = (List.flatMap tokc l).drop (j * 4) := by
          rw [List.flatMap_cons, List.drop_append]
          have h4 : (tokc t).length = 4 := rfl
          rw [h4, List.drop_eq_nil_of_le (by rw [h4]; omega), List.nil_append]
          congr 1
          omega
        rw [e]
        exact h1

theorem lexer_Tokens.calls (a0 : ByteArray) (r1 : List (S41)) (r2 : Int) (r3 : Int) (w : World) (h : lexer_Tokens.f a0 = some (r1, r2, r3)) (hG : GOK w) :
    Calls Tryd.prog 18 #[.string a0] w fun e w' => ∃ v0_ : Value, e = .returned (.tuple #[v0_, .int .i64 r2, .int .i64 r3]) ∧ Kd.R k41 41 w' w.heap.size (fun _ => True) v0_ r1 ∧ Below w.heap.size w w' := by
  unfold lexer_Tokens.f Lex.tokens at h
  simp only [Option.some.injEq, Prod.mk.injEq] at h
  obtain ⟨rfl, rfl, rfl⟩ := h
  have hsz := Lib.size_eq a0
  by_cases hl : 8192 < a0.size
  · rw [if_pos (by omega)]
    refine (lex_tokens_long a0 w hl).mono ?_
    rintro e w' ⟨rfl, hb⟩
    exact ⟨_, rfl, Kd.R_nil _ _ _ _ _, hb⟩
  · rw [if_neg (by omega)]
    refine (lex_tokens a0 w (by omega) hG).mono ?_
    rintro e w' ⟨v, toks, k, er, hr, rfl, ho, hb⟩
    rw [hr]
    refine ⟨v, rfl, ⟨fun _ _ => trivial, toks.flatMap tokc, ?_, reps_toks _ _ _ _⟩, hb⟩
    rw [List.length_map]
    exact ho

def lexer_Position.f (a0 : ByteArray) (a1 : Int) : Option (Int × Int) :=
  if a0.size ≤ 140737488351232 then some (1 + ((a0.extract 0 (max 0 (min a1 a0.size)).toNat).data.toList.count 10 : Nat), (a0.extract 0 (max 0 (min a1 a0.size)).toNat).size - Lib.lastIndexByte (a0.extract 0 (max 0 (min a1 a0.size)).toNat) 10) else none

theorem lastIdx_bd (s : ByteArray) (c : Int) : -1 ≤ Lib.lastIndexByte s c ∧ Lib.lastIndexByte s c < s.size := by
  unfold Lib.lastIndexByte
  rcases Lib.lastIdx_spec s c s.size with ⟨h, _⟩ | ⟨i, h1, h2, _⟩
  · omega
  · omega

set_option maxHeartbeats 1000000 in
theorem lexer_Position.calls (a0 : ByteArray) (a1 : Int) (r1 : Int) (r2 : Int) (w : World) (h : lexer_Position.f a0 a1 = some (r1, r2)) :
    Calls Tryd.prog 16 #[.string a0, .int .i64 a1] w fun e w' => e = .returned (.tuple #[.int .i64 r1, .int .i64 r2]) ∧ Drawn0 w w' := by
  unfold lexer_Position.f at h
  split at h
  case isFalse => cases h
  case isTrue hsz =>
  have hbs : (a0.extract 0 (max 0 (min a1 a0.size)).toNat).size ≤ 140737488351232 := by rw [ByteArray.size_extract]; omega
  have hcl : (a0.extract 0 (max 0 (min a1 a0.size)).toNat).data.toList.count 10 ≤ 140737488351232 := by
    refine Nat.le_trans List.count_le_length ?_
    rw [← Lib.size_eq]
    exact hbs
  simp only [Option.some.injEq, Prod.mk.injEq] at h
  obtain ⟨h1, h2⟩ := h
  subst h1 h2
  have hli := lastIdx_bd (a0.extract 0 (max 0 (min a1 a0.size)).toNat) 10
  go_enter Tryd.func16, Tryd.ntmps16
  go_wp2_with fail
  obtain ⟨b, hb⟩ : ∃ b, a0.extract 0 (max 0 (min a1 a0.size)).toNat = b := ⟨_, rfl⟩
  rw [hb] at hbs hcl hli ⊢
  have Hb := Lib.hid hb
  clear hb
  have hL : ∀ W, Calls Tryd.prog 26 #[.string b, .string ⟨#[10]⟩] W fun e w' => e = .returned (.int .i64 (Lib.lastIndexByte b 10)) ∧ w' = W := fun W => Tryd.strings_LastIndex_one b ⟨#[10]⟩ (by decide) (by omega) W
  have HL := Lib.hid hL
  clear hL
  refine (Tryd.strings_Count_one b 10 _).mono ?_
  rintro e w1 ⟨rfl, rfl⟩
  have hc : (Lib.countByte b.data.toList 10 : Int) ≤ 140737488351232 := by unfold Lib.countByte; omega
  go_wp2_with fail
  refine (HL.out _).mono ?_
  rintro e w2 ⟨rfl, rfl⟩
  go_wp2_with fail
  go_ret2
  exact ⟨by rw [Hb.out]; rfl, Drawn0.refl _⟩
end Go.Proofs.YtoogbggeghlkkaaDoor.X
