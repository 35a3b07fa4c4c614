/- The walk of lexer.Tokens. -/
import Derived.Test.YtmahdomlmidfdaaDoorLexp
import Derived.Test.YtmahdomlmidfdaaDoorRf
import Derived.RangeFuncBox
import Derived.RangeFuncBound
import Derived.Maps.AppendAt
namespace Go.Proofs.YtmahdomlmidfdaaDoor
open Go.RowKit Go.Shelf Go.Proofs.YtmahdomlmidfdaaDoorW.PrintWords
attribute [local go_sem] Oper.semAt_some

set_option maxHeartbeats 1000000 in
theorem lex_parts (s : ByteArray) (w : World) : Calls Tryd.prog 45 #[.string s] w fun e w' => e = .returned (.func (.func 48) #[] #[.pointer (some ⟨w.heap.size, 0, none⟩)]) ∧ w' = w.alloc (.cells #[.string s] 9) := by
  go_enter Tryd.func45, Tryd.ntmps45
  go_wp2
  go_ret
  exact ⟨rfl, rfl⟩

set_option maxRecDepth 100000 in
set_option maxHeartbeats 2000000 in
theorem lex_tokens_long (s : ByteArray) (w : World) (h : 8192 < s.size) : Calls Tryd.prog 42 #[.string s] w fun e w' => e = .returned (.tuple #[.slice none 0 0, .int .i64 0, .int .i64 4]) ∧ Below w.heap.size w w' := by
  go_enter Tryd.func42, Tryd.ntmps42
  go_wp2_with fail
  refine bodyPost_ret (v := .tuple #[.slice none 0 0, .int .i64 0, .int .i64 4]) (by simp [results, Tryd.results42, go_sem]) rfl ⟨rfl, ?_⟩
  exact (((Below.refl _ w).alloc (Nat.le_refl _) _).alloc (by simp) _).alloc (by simp; omega) _

theorem lex_atoi (b : ByteArray) (w : World) (hb : b.size ≤ 8192) (hG : GOK w) : Calls Tryd.prog 46 #[.string b] w fun e w' => ∃ (n : Int) (ev : Value), e = .returned (.tuple #[.int .i64 n, ev]) ∧ Below w.heap.size w w' ∧
    ((ev = .nilIface ∧ Lib.atoiAll b.data.toList = .ok n) ∨ ((∃ N : Addr, ev = .iface 119 (.pointer (some N))) ∧ ∀ v, Lib.atoiAll b.data.toList ≠ .ok v)) := by
  cases ha : Lib.atoiAll b.data.toList with
  | ok v =>
    refine (Tryd.strconv_Atoi_ok b (by omega) v ha w).mono ?_
    rintro e w' ⟨rfl, hw⟩
    refine ⟨v, .nilIface, rfl, ?_, .inl ⟨rfl, rfl⟩⟩
    rcases hw with rfl | ⟨t, rfl⟩
    · exact Below.refl _ _
    · exact Lib.bytesWorld_below _ _ _
  | range =>
    obtain ⟨t, p, hv⟩ := hG.base.errRange
    refine (Tryd.strconv_Atoi_range b (by omega) ha _ w hv (.inr ⟨t, p, rfl⟩)).mono ?_
    rintro e w' ⟨N, rfl, _, _, hB⟩
    exact ⟨_, _, rfl, hB, .inr ⟨⟨_, rfl⟩, fun v h => by cases h⟩⟩
  | _ =>
    obtain ⟨t, p, hv⟩ := hG.base.errSyntax
    refine (Tryd.strconv_Atoi_syntax b (by omega) ha _ w hv (.inr ⟨t, p, rfl⟩)).mono ?_
    rintro e w' ⟨N, rfl, _, _, hB⟩
    exact ⟨_, _, rfl, hB, .inr ⟨⟨_, rfl⟩, fun v h => by cases h⟩⟩

theorem tok_info : (Tryd.prog.info? 99).map (fun i => (i.zero, i.size, i.bytes)) = some (some (.agg #[.int .i64 0, .string ⟨#[]⟩, .int .i64 0, .int .i64 0]), 4, 40) := by kernel_rfl
theorem cells_new (w : World) (cs : List Value) (t : TypeId) : ∀ j u, cs[j]? = some u → (w.alloc (.cells cs.toArray t)).cell? ((⟨w.heap.size, 0, none⟩ : Addr).add j) = some u := by
  intro j u hj
  have h := World.alloc_heap_new w (.cells cs.toArray t)
  have h1 := blk_cell h j
  have e : (⟨w.heap.size, 0, none⟩ : Addr).add j = ⟨w.heap.size, j, none⟩ := by unfold Addr.add; split <;> simp_all
  rw [e, h1]
  simpa using hj

theorem cells_newn (w : World) (cs : List Value) (t : TypeId) (n : Nat) (hn : w.heap.size = n) : ∀ j u, cs[j]? = some u → (w.alloc (.cells cs.toArray t)).cell? ((⟨n, 0, none⟩ : Addr).add j) = some u := by
  subst hn
  exact cells_new w cs t

theorem tok_one (k n a : Int) (b : ByteArray) : ∀ u ∈ [Value.int .i64 k, .string b, .int .i64 n, .int .i64 a], u.oneCell' = true := by
  intro u hu
  simp at hu
  rcases hu with rfl | rfl | rfl | rfl <;> rfl

/-- A token's cells. -/
def tokc (t : Lex.Tok) : List Value := [.int .i64 t.kind, .string ⟨t.text.toArray⟩, .int .i64 t.n, .int .i64 t.at_]

/-- What the caller of the iterator keeps between two rounds. -/
def TI (w : World) (s : ByteArray) (pre : List Lex.Tk) (W : World) : Prop :=
  (∃ (v : Value) (toks : List Lex.Tok), Boxed W (w.heap.size + 3) 95 v ∧ W.ownsRow w.heap.size 99 4 v toks.length (toks.flatMap tokc) ∧ toks.length = pre.length ∧ (∀ ys, Lex.run (pre ++ ys) [] = Lex.run ys toks)) ∧
  Boxed W w.heap.size 95 (.slice none 0 0) ∧ Boxed W (w.heap.size + 1) 3 (.int .i64 0) ∧ Boxed W (w.heap.size + 2) 28 (.int .i64 0) ∧ Boxed W (w.heap.size + 4) 9 (.string s) ∧ Below w.heap.size w W ∧ (∀ x ∈ pre, x.text ≠ [])
/-- What is there where a round has said no more. -/
def TX (w : World) (pre : List Lex.Tk) (W : World) : Prop :=
  ∃ (k e : Int), (∀ ys, Lex.run (pre ++ ys) [] = ([], k, e)) ∧ Boxed W w.heap.size 95 (.slice none 0 0) ∧ Boxed W (w.heap.size + 1) 3 (.int .i64 k) ∧ Boxed W (w.heap.size + 2) 28 (.int .i64 e) ∧ Below w.heap.size w W

theorem TI.grown {w A B : World} {s : ByteArray} {pre : List Lex.Tk} {row : Option Nat} (h : TI w s pre A) (hg : A.grownBy B row) (hr : ∀ k, row = some k → w.heap.size ≤ k ∧ ∃ o, A.heap[k]? = some o ∧ o.isCells = false) : TI w s pre B := by
  obtain ⟨⟨v, toks, hv, ho, hl, hrun⟩, h0, h1, h2, h4, hb, hgood⟩ := h
  have hne : ∀ {k t u}, Boxed A k t u → some k ≠ row := fun hk e => by
    obtain ⟨_, o, h1, h2⟩ := hr _ e.symm
    rw [show A.heap[_]? = _ from hk] at h1; cases h1; cases h2
  refine ⟨⟨v, toks, hv.kept hg (hne hv), ho.kept hg ?_, hl, hrun⟩, h0.kept hg (hne h0), h1.kept hg (hne h1), h2.kept hg (hne h2), h4.kept hg (hne h4), hb.grown hg hb.size (fun k e => (hr k e).1), hgood⟩
  rcases ho.2 with ⟨rfl, _⟩ | ⟨g, cap, cur, rfl, _, hgb, _⟩
  · exact .inl rfl
  · refine .inr fun e' => ?_
    obtain ⟨_, o, h1, h2⟩ := hr g (by simpa [Value.ownBlock] using e'.symm)
    rw [hgb] at h1; cases h1; cases h2

theorem TX.grown {w A B : World} {pre : List Lex.Tk} {row : Option Nat} (h : TX w pre A) (hg : A.grownBy B row) (hr : ∀ k, row = some k → w.heap.size ≤ k ∧ ∃ o, A.heap[k]? = some o ∧ o.isCells = false) : TX w pre B := by
  obtain ⟨k, e, hrun, h0, h1, h2, hb⟩ := h
  have hne : ∀ {k t u}, Boxed A k t u → some k ≠ row := fun hk e => by
    obtain ⟨_, o, h1, h2⟩ := hr _ e.symm
    rw [show A.heap[_]? = _ from hk] at h1; cases h1; cases h2
  exact ⟨k, e, hrun, h0.kept hg (hne h0), h1.kept hg (hne h1), h2.kept hg (hne h2), hb.grown hg hb.size (fun k e => (hr k e).1)⟩

theorem grownBy_setCell2 (W : World) (b j : Nat) (v : Value) : W.grownBy (W.setCell ⟨b, j, none⟩ v) (some b) :=
  ⟨rfl, rfl, rfl, (KeepsWalks.setCell W _ v).size, fun k _ hk => Below.heap_setCell _ _ _ k (fun e => hk (by rw [e]))⟩

theorem TX_stop {w W : World} {pre : List Lex.Tk} {x : Lex.Tk} {toks : List Lex.Tok} {e : Int} (hrun : ∀ ys, Lex.run (pre ++ ys) [] = Lex.run ys toks) (he : Lex.eat x = .inl e)
    (b0 : Boxed W w.heap.size 95 (.slice none 0 0)) (b1 : Boxed W (w.heap.size + 1) 3 (.int .i64 0)) (b2 : Boxed W (w.heap.size + 2) 28 (.int .i64 0)) (hb : Below w.heap.size w W) :
    TX w (pre ++ [x]) (((W.setCell ⟨w.heap.size, 0, none⟩ (.slice none 0 0)).setCell ⟨w.heap.size + 1, 0, none⟩ (.int .i64 x.at_)).setCell ⟨w.heap.size + 1 + 1, 0, none⟩ (.int .i64 e)) := by
  refine ⟨x.at_, e, fun ys => ?_, ?_, ?_, ?_, ?_⟩
  · rw [List.append_assoc, hrun]
    show Lex.run (x :: ys) toks = _
    rw [Lex.run, he]
  · exact ((b0.set _).other (by omega) _).other (by omega) _
  · exact ((b1.other (by omega) _).set _).other (by omega) _
  · exact ((b2.other (by omega) _).other (by omega) _).set _
  · exact ((hb.setCell (p := ⟨w.heap.size, 0, none⟩) (Nat.le_refl _) _).setCell (p := ⟨w.heap.size + 1, 0, none⟩) (by show w.heap.size ≤ w.heap.size + 1; omega) _).setCell (p := ⟨w.heap.size + 1 + 1, 0, none⟩) (by show w.heap.size ≤ w.heap.size + 1 + 1; omega) _

theorem TI_snoc {w W w1 : World} {s : ByteArray} {pre : List Lex.Tk} {x : Lex.Tk} {t : Lex.Tok} {v v' : Value} {toks : List Lex.Tok} {tmp : Obj}
    (hv : Boxed W (w.heap.size + 3) 95 v) (ho : W.ownsRow w.heap.size 99 4 v toks.length (toks.flatMap tokc)) (htl : toks.length = pre.length) (hrun : ∀ ys, Lex.run (pre ++ ys) [] = Lex.run ys toks)
    (b0 : Boxed W w.heap.size 95 (.slice none 0 0)) (b1 : Boxed W (w.heap.size + 1) 3 (.int .i64 0)) (b2 : Boxed W (w.heap.size + 2) 28 (.int .i64 0)) (b4 : Boxed W (w.heap.size + 4) 9 (.string s)) (hb : Below w.heap.size w W) (hgood : ∀ y ∈ pre, y.text ≠ [])
    (hx : x.text ≠ []) (he : Lex.eat x = .inr t) (hgrow : (W.alloc tmp).grownBy w1 v.ownBlock)
    (hv2 : Boxed (w1.setCell ⟨w.heap.size + 3, 0, none⟩ v') (w.heap.size + 3) 95 v') (hr2 : (w1.setCell ⟨w.heap.size + 3, 0, none⟩ v').ownsRow w.heap.size 99 4 v' (toks.length + 1) (toks.flatMap tokc ++ tokc t)) (hb2 : Below w.heap.size W (w1.setCell ⟨w.heap.size + 3, 0, none⟩ v')) :
    TI w s (pre ++ [x]) (w1.setCell ⟨w.heap.size + 3, 0, none⟩ v') := by
  refine ⟨⟨v', toks ++ [t], hv2, ?_, ?_, ?_⟩, ?_, ?_, ?_, ?_, hb.trans hb2, ?_⟩
  · rw [List.length_append, List.flatMap_append]
    simpa using hr2
  · simp [htl]
  · intro ys
    rw [List.append_assoc, hrun]
    show Lex.run (x :: ys) toks = _
    rw [Lex.run, he]
  · exact (((b0.alloc tmp).kept hgrow (b0.not_row (by decide) ho))).other (by omega) _
  · exact (((b1.alloc tmp).kept hgrow (b1.not_row (by decide) ho))).other (by omega) _
  · exact (((b2.alloc tmp).kept hgrow (b2.not_row (by decide) ho))).other (by omega) _
  · exact (((b4.alloc tmp).kept hgrow (b4.not_row (by decide) ho))).other (by omega) _
  · intro y hy
    rcases List.mem_append.1 hy with h | h
    · exact hgood y h
    · simp at h; subst h; exact hx

set_option maxRecDepth 100000 in
set_option maxHeartbeats 4000000 in
theorem lex_tokens (s : ByteArray) (w : World) (h : s.size ≤ 8192) (hG : GOK w) : Calls Tryd.prog 42 #[.string s] w fun e w' => ∃ (v : Value) (toks : List Lex.Tok) (k er : Int), Lex.run (Lex.items s.data.toList.length s.data.toList 0) [] = (toks, k, er) ∧
    e = .returned (.tuple #[v, .int .i64 k, .int .i64 er]) ∧ w'.ownsRow w.heap.size 99 4 v toks.length (toks.flatMap tokc) ∧ Below w.heap.size w w' := by
  refine (callsIn_wide (n := 3)).1 ?_
  refine callsIn_of_wp_marks Tryd.func42 rfl trivial ?_ rfl
  simp only [Tryd.ntmps42, List.size_toArray, List.length_cons, List.length_nil, Nat.reduceAdd, Nat.reduceSub, Array.replicate_succ, Array.replicate_zero, List.push_toArray, List.append_toArray, List.nil_append, List.cons_append]
  have hlt : ¬ 8192 < s.size := by omega
  gi_wp2_with fail
  refine ⟨trivial, ?_⟩
  refine (callsIn_wide.2 (lex_parts _ _)).mono ?_
  rintro e w1 ⟨rfl, rfl⟩
  gi_wp2_with fail
  have hI0 : TI w s [] (((((w.alloc (.cells #[.slice none 0 0] 95)).alloc (.cells #[.int .i64 0] 3)).alloc (.cells #[.int .i64 0] 28)).alloc (.cells #[.slice none 0 0] 95)).alloc (.cells #[.string s] 9)) := by
    have b0 := ((((Boxed.new w 95 (.slice none 0 0)).alloc (.cells #[.int .i64 0] 3)).alloc (.cells #[.int .i64 0] 28)).alloc (.cells #[.slice none 0 0] 95)).alloc (.cells #[.string s] 9)
    have b1 := (((Boxed.new (w.alloc (.cells #[.slice none 0 0] 95)) 3 (.int .i64 0)).alloc (.cells #[.int .i64 0] 28)).alloc (.cells #[.slice none 0 0] 95)).alloc (.cells #[.string s] 9)
    have b2 := ((Boxed.new ((w.alloc (.cells #[.slice none 0 0] 95)).alloc (.cells #[.int .i64 0] 3)) 28 (.int .i64 0)).alloc (.cells #[.slice none 0 0] 95)).alloc (.cells #[.string s] 9)
    have b3 := (Boxed.new (((w.alloc (.cells #[.slice none 0 0] 95)).alloc (.cells #[.int .i64 0] 3)).alloc (.cells #[.int .i64 0] 28)) 95 (.slice none 0 0)).alloc (.cells #[.string s] 9)
    have b4 := Boxed.new ((((w.alloc (.cells #[.slice none 0 0] 95)).alloc (.cells #[.int .i64 0] 3)).alloc (.cells #[.int .i64 0] 28)).alloc (.cells #[.slice none 0 0] 95)) 9 (.string s)
    simp only [World.size_alloc] at b1 b2 b3 b4
    refine ⟨⟨.slice none 0 0, [], b3, World.ownsRow_nil _ _ _ _, rfl, fun ys => rfl⟩, b0, b1, b2, b4, ?_, by simp⟩
    exact ((((Below.refl _ w).alloc (Nat.le_refl _) _).alloc (by simp) _).alloc (by simp; omega) _).alloc (by simp; omega) _ |>.alloc (by simp; omega) _
  obtain ⟨W0, hW0⟩ : ∃ W0, ((((w.alloc (.cells #[.slice none 0 0] 95)).alloc (.cells #[.int .i64 0] 3)).alloc (.cells #[.int .i64 0] 28)).alloc (.cells #[.slice none 0 0] 95)).alloc (.cells #[.string s] 9) = W0 := ⟨_, rfl⟩
  have hsz : W0.heap.size = w.heap.size + 5 := by rw [← hW0]; simp
  rw [hW0] at hI0 ⊢
  have hcS := hI0.2.2.2.2.1.cell
  refine rf_law (n := 3) (gf := 48) (lb := #[.pointer (some ⟨w.heap.size + 1 + 1 + 1 + 1, 0, none⟩)]) rfl (enters_of Tryd.func48 (by kernel_rfl) rfl) (fun x : Lex.Tk => #[.int .i64 x.at_, tkv x]) (fun _ => rfl) s.size (fun x => x.text.length ≤ s.size)
    (fun xs => xs = Lex.items s.data.toList.length s.data.toList 0) (fun pre => pre <+: Lex.items s.data.toList.length s.data.toList 0 ∧ pre ≠ []) (TI w s) (TX w)
    (fun pre A B hA hb => hA.grown (grown_of_below hb none) (fun k e => by cases e))
    (fun pre W l o o' hl ho hc hi => hi.grown (grownBy_putObj' W l o') (fun k e => by cases e; exact ⟨by omega, o, ho, hc⟩))
    (fun pre W l o o' hl ho hc hi => hi.grown (grownBy_putObj' W l o') (fun k e => by cases e; exact ⟨by omega, o, ho, hc⟩))
    hI0 ?seq
    (fun x a' W => ∃ Bx, w.heap.size + 4 < Bx ∧ W.heap[Bx]? = some (.cells #[.int .i64 x.kind, .string ⟨x.text.toArray⟩, .int .i64 0, .int .i64 x.at_] 99 (0, 0)) ∧ (∀ v, W.cell? ⟨w.heap.size + 3, 0, none⟩ = some v → some Bx ≠ v.ownBlock) ∧ a' = { tmps := #[.string s, undef, .pointer (some ⟨w.heap.size, 0, none⟩), .pointer (some ⟨w.heap.size + 1, 0, none⟩), .pointer (some ⟨w.heap.size + 1 + 1, 0, none⟩), .pointer (some ⟨w.heap.size + 1 + 1 + 1, 0, none⟩), .int .i64 x.at_, .pointer (some ⟨Bx, 0, none⟩), undef, undef, .string s, .int .i64 s.size, .bool (decide (8192 < (s.size : Int))), .string s, .func (.func 48) #[] #[.pointer (some ⟨w.heap.size + 1 + 1 + 1 + 1, 0, none⟩)], .int .i64 x.at_, (.agg #[.int .i64 x.kind, .string ⟨x.text.toArray⟩, .int .i64 0, .int .i64 x.at_]), undef, undef, undef, undef, undef, undef, undef, undef, undef, undef, undef, undef, undef, undef, undef, undef, undef, undef, undef, undef, undef, undef, undef, undef, undef, undef, undef, undef, undef, undef, undef, undef, undef, undef, undef, undef, undef, undef, undef, undef], defers := [] })
    ?hAx ?assign ?body ?done ?stop
  case seq =>
    intro l J Jx W1 hb1 hJI hJb hY h0
    refine (parts1 (3 - 1) l (w.heap.size + 1 + 1 + 1 + 1) (w.heap.size + 5) s h J Jx hJb (fun pre W hj => (hJI _ _ hj).2.2.2.2.2.2) (fun pre W hj => hG.of_below (hJI _ _ hj).2.2.2.2.2.1) ?_ W1 (by omega) (by have := hb1.size; omega) ((hb1.cell (p := ⟨w.heap.size + 1 + 1 + 1 + 1, 0, none⟩) (by show w.heap.size + 1 + 1 + 1 + 1 < _; omega)).trans hcS) h0).mono ?_
    · intro pre x W hj hl hx
      refine YieldAt.mono (hY pre x W hj hl hx) ?_
      rintro e W' (⟨rfl, hj'⟩ | ⟨rfl, hj'⟩)
      · have hti := (hJI _ _ hj').2.2.2.2.1
        exact .inl ⟨rfl, hj', hti.cell, by have := hti.lt; omega⟩
      · exact .inr ⟨rfl, hj'⟩
    · rintro e W' ⟨hv, hq | ⟨pre, h1, h2, h3⟩⟩
      · exact ⟨hv, .inl ⟨_, rfl, hq⟩⟩
      · exact ⟨hv, .inr ⟨pre, ⟨h1, h2⟩, h3⟩⟩
  case hAx =>
    rintro x a' W l o o' hl ho hc ⟨Bx, h1, h2, h4, h3⟩
    refine ⟨Bx, h1, (World.putObj_heap_other ?_).trans h2, ?_, h3⟩
    · rintro rfl
      rw [h2] at ho; cases ho; cases hc
    · intro v hv
      refine h4 v ?_
      rw [← hv]
      exact (World.cell?_of_block (World.putObj_heap_other (by show w.heap.size + 3 ≠ l; omega))).symm
  case assign =>
    rintro l pre x W K hi hK
    have hBN := hi.2.2.2.2.1.lt
    simp only [tkv]
    gi_wp2
    refine hK _ _ ((KeepsOthers.alloc _ _).from _) (hi.grown (World.grownBy_alloc _ _ none) (fun k e => by cases e)) ⟨W.heap.size, by omega, World.alloc_heap_new _ _, ?_, rfl⟩
    obtain ⟨⟨v, toks, hv, ho, _⟩, _⟩ := hi
    intro v' hv'
    rw [(hv.alloc _).cell] at hv'
    cases hv'
    intro e
    have := (ho.lt _ e.symm).2
    omega
  case body =>
    rintro l pre x a' W hi ⟨Bx, hBx, hblk, hBv, rfl⟩ hlen hGx
    obtain ⟨⟨v, toks, hv, ho, htl, hrun⟩, b0, b1, b2, b4, hb, hgood⟩ := id hi
    have hk0 := blk_cell hblk 0
    have hk1 := blk_cell hblk 1
    have hk2 := blk_cell hblk 2
    have hk3 := blk_cell hblk 3
    have hf0 := blk_frozen hblk 0
    have hf1 := blk_frozen hblk 1
    have hf2 := blk_frozen hblk 2
    have hf3 := blk_frozen hblk 3
    have c0 := b0.cell
    have c1 := b1.cell
    have c2 : W.cell? ⟨w.heap.size + 1 + 1, 0, none⟩ = _ := b2.cell
    have f0 := b0.frozen
    have f1 := b1.frozen
    have f2 : W.frozen? ⟨w.heap.size + 1 + 1, 0, none⟩ = _ := b2.frozen
    have hGW : GOK W := hG.of_below hb
    have hnX : w.heap.size ≤ W.heap.size := hb.size
    have cv : W.cell? ⟨w.heap.size + 1 + 1 + 1, 0, none⟩ = some v := hv.cell
    obtain ⟨i0, hi0, hz0, hz1, hz2⟩ := info_parts tok_info
    have hbs : (⟨x.text.toArray⟩ : ByteArray).size = x.text.length := by rw [Lib.size_eq]
    have hbd : (⟨x.text.toArray⟩ : ByteArray).data.toList = x.text := rfl
    have hxl := hGx
    have htl8 : toks.length < s.size := by omega
    by_cases h0 : x.text = []
    · have he : Lex.eat x = .inl 2 := by unfold Lex.eat; rw [if_pos h0]
      have hbe : (⟨x.text.toArray⟩ : ByteArray).toList = [] := by rw [Lib.toList_data]; simpa using h0
      obtain ⟨bt, hbt⟩ : ∃ bt : ByteArray, (⟨x.text.toArray⟩ : ByteArray) = bt := ⟨_, rfl⟩
      rw [hbt] at hk1 hbe ⊢
      have HE := Lib.hid he
      have HR := Lib.hid hrun
      clear he h0 hbt hrun htl hgood hbs hbd hi0 hz0 hz1 hz2
      gi_wp2_with fail
      refine ⟨(((KeepsOthers.setCell _ _ _).trans (KeepsOthers.setCell _ _ _)).trans (KeepsOthers.setCell _ _ _)).from _, TX_stop HR.out HE.out b0 b1 b2 hb⟩
    · have hbe : (⟨x.text.toArray⟩ : ByteArray).toList.isEmpty = false := by
        rw [Lib.toList_data]
        cases hx : x.text with
        | nil => exact absurd hx h0
        | cons c r => rfl
      have hbe2 : (!(⟨x.text.toArray⟩ : ByteArray).toList.isEmpty) = true := by rw [hbe]; rfl
      obtain ⟨bt, hbt⟩ : ∃ bt : ByteArray, (⟨x.text.toArray⟩ : ByteArray) = bt := ⟨_, rfl⟩
      rw [hbt] at hk1 hbe hbe2 hbs hbd ⊢
      have hbl : bt.size ≤ 8192 := by omega
      by_cases hk : x.kind = 0
      · have hkb : (x.kind == 0) = true := beq_iff_eq.2 hk
        by_cases h16 : 16 < x.text.length
        · have he : Lex.eat x = .inl 4 := by unfold Lex.eat; rw [if_neg h0, if_pos ⟨hk, h16⟩]
          have h16b : 16 < bt.size := by omega
          have HE := Lib.hid he
          have HR := Lib.hid hrun
          clear he h0 hbt hrun htl hgood hbs hbd hk h16 hi0 hz0 hz1 hz2
          gi_wp2_with fail
          refine ⟨(((KeepsOthers.setCell _ _ _).trans (KeepsOthers.setCell _ _ _)).trans (KeepsOthers.setCell _ _ _)).from _, TX_stop HR.out HE.out b0 b1 b2 hb⟩
        · have he : Lex.eat x = .inr ⟨x.kind, x.text, 0, x.at_⟩ := by unfold Lex.eat; rw [if_neg h0, if_neg (fun h => h16 h.2), if_neg (by omega)]
          have h16b : ¬ 16 < bt.size := by omega
          have hk1b : (x.kind == 1) = false := beq_eq_false_iff_ne.2 (by omega)
          have HE := Lib.hid he
          have HR := Lib.hid hrun
          have HTL := Lib.hid htl
          have HBT := Lib.hid hbt
          have HG := Lib.hid hgood
          have H0 := Lib.hid h0
          clear he h0 hbt hrun htl hgood hbs hbd hk h16
          gi_wp2_with (gi_at_builtin; refine wpListIn_append_own _ rfl _ _ 95 rfl w.heap.size 99 i0 (.agg #[.int .i64 0, .string ⟨#[]⟩, .int .i64 0, .int .i64 0]) 4 40 Tryd.underlying95 hi0 hz0 hz1 hz2 rfl (by decide) _ _ _ rfl (ho.alloc _) ⟨W.heap.size, 0, none⟩ 1 1 [.int .i64 x.kind, .string bt, .int .i64 0, .int .i64 x.at_] rfl rfl (cells_new _ _ _) (tok_one _ _ _ _) (by unfold maxLen; omega) (by omega) (by simp; omega) ?_; intro v' w1 hown' hgrow _; obtain ⟨g', cap', rfl⟩ := ownsRow_succ hown'; obtain ⟨hv1, hv2, hr2, hk2, hb2⟩ := hv.appended (by decide) ho hnX (by omega) hown' hgrow; have hc1 := hv1.cell; have hf1 := hv1.frozen)
          refine ⟨hk2.from _, TI_snoc hv ho HTL.out HR.out b0 b1 b2 b4 hb HG.out H0.out HE.out hgrow hv2 ?_ hb2⟩
          rw [← HBT.out] at hr2
          exact hr2
      · have hkb : (x.kind == 0) = false := beq_eq_false_iff_ne.2 hk
        by_cases hk1' : x.kind = 1
        · have hk1b : (x.kind == 1) = true := beq_iff_eq.2 hk1'
          have HR := Lib.hid hrun
          have HTL := Lib.hid htl
          have HBT := Lib.hid hbt
          have HG := Lib.hid hgood
          have H0 := Lib.hid h0
          have HK := Lib.hid hk1'
          have HBD := Lib.hid hbd
          have HBV := Lib.hid hBv
          clear h0 hbt hrun htl hgood hbs hbd hk hk1' hBv
          gi_wp2_with fail
          refine ⟨trivial, ?_⟩
          refine (CallsIn.inRound l (callsIn_wide.2 (lex_atoi bt _ hbl hGW))).mono ?_
          rintro e w2 ⟨n, ev, rfl, hB2, hcase⟩
          have hgr := grown_of_below hB2 none
          have hblk2 := (hgr.block Bx (Array.getElem?_eq_some_iff.1 hblk).1 (by simp)).trans hblk
          rw [HBT.out] at hblk2
          have ho2 := ho.kept hgr (by cases v.ownBlock <;> simp)
          have hv2' := hv.kept hgr (by simp)
          have b0' := b0.kept hgr (by simp)
          have b1' := b1.kept hgr (by simp)
          have b2' := b2.kept hgr (by simp)
          have b4' := b4.kept hgr (by simp)
          have hb' : Below w.heap.size w w2 := hb.trans (hB2.mono hb.size)
          clear hk0 hk1 hk2 hk3 hf0 hf1 hf2 hf3 c0 c1 c2 f0 f1 f2 cv
          have hk0 := blk_cell hblk2 0
          have hk1 := blk_cell hblk2 1
          have hk2 := blk_cell hblk2 2
          have hk3 := blk_cell hblk2 3
          have hf0 := blk_frozen hblk2 0
          have hf1 := blk_frozen hblk2 1
          have hf2 := blk_frozen hblk2 2
          have hf3 := blk_frozen hblk2 3
          have c0 := b0'.cell
          have c1 := b1'.cell
          have c2 : w2.cell? ⟨w.heap.size + 1 + 1, 0, none⟩ = _ := b2'.cell
          have f0 := b0'.frozen
          have f1 := b1'.frozen
          have f2 : w2.frozen? ⟨w.heap.size + 1 + 1, 0, none⟩ = _ := b2'.frozen
          have cv : w2.cell? ⟨w.heap.size + 1 + 1 + 1, 0, none⟩ = some v := hv2'.cell
          have HB := Lib.hid hblk2
          clear hblk hblk2
          rcases hcase with ⟨rfl, hok⟩ | ⟨⟨N, rfl⟩, hbad⟩
          · rw [HBD.out] at hok
            by_cases hn : 1099511627776 < n
            · have he : Lex.eat x = .inl 4 := by unfold Lex.eat; rw [if_neg H0.out, if_neg (fun h => by have := HK.out; omega), if_pos HK.out, hok]; exact if_pos hn
              have HE := Lib.hid he
              clear he hok hi0 hz0 hz1 hz2
              gi_wp2_with fail
              refine ⟨((((KeepsOthers.of_grownBy hgr (fun j o e => by cases e)).trans (KeepsOthers.setCell _ _ _)).trans (KeepsOthers.setCell _ _ _)).trans (KeepsOthers.setCell _ _ _)).from _, TX_stop HR.out HE.out b0' b1' b2' hb'⟩
            · have he : Lex.eat x = .inr ⟨x.kind, x.text, n, x.at_⟩ := by unfold Lex.eat; rw [if_neg H0.out, if_neg (fun h => by have := HK.out; omega), if_pos HK.out, hok]; exact if_neg hn
              have HE := Lib.hid he
              clear he hok
              have hnX2 : w.heap.size ≤ (w2.setCell ⟨Bx, 2, none⟩ (.int .i64 n)).heap.size := by simp; exact hb'.size
              have hn2 : w.heap.size ≤ w2.heap.size := hb'.size
              have hgs := grownBy_setCell2 w2 Bx 2 (.int .i64 n)
              have hoX := ho2.kept hgs (.inr (fun e => HBV.out v (by rw [← hv.cell]) e.symm))
              have hvX := hv2'.kept hgs (by intro e; cases e; omega)
              have b0X := b0'.kept hgs (by intro e; cases e; omega)
              have b1X := b1'.kept hgs (by intro e; cases e; omega)
              have b2X := b2'.kept hgs (by intro e; cases e; omega)
              have b4X := b4'.kept hgs (by intro e; cases e; omega)
              have hbX : Below w.heap.size w (w2.setCell ⟨Bx, 2, none⟩ (.int .i64 n)) := hb'.setCell (p := ⟨Bx, 2, none⟩) (by show w.heap.size ≤ Bx; omega) _
              gi_wp2_with (gi_at_builtin; refine wpListIn_append_own _ rfl _ _ 95 rfl w.heap.size 99 i0 (.agg #[.int .i64 0, .string ⟨#[]⟩, .int .i64 0, .int .i64 0]) 4 40 Tryd.underlying95 hi0 hz0 hz1 hz2 rfl (by decide) _ _ _ rfl (hoX.alloc _) ⟨w2.heap.size, 0, none⟩ 1 1 [.int .i64 x.kind, .string bt, .int .i64 n, .int .i64 x.at_] rfl rfl (cells_newn _ [.int .i64 x.kind, .string bt, .int .i64 n, .int .i64 x.at_] 99 _ (by simp)) (tok_one _ _ _ _) (by unfold maxLen; omega) (by omega) (by simp; omega) ?_; intro v' w1 hown' hgrow _; obtain ⟨g', cap', rfl⟩ := ownsRow_succ hown'; obtain ⟨hv1, hv2, hr2, hk2, hb2⟩ := hvX.appended (by decide) hoX hnX2 (by omega) hown' hgrow; have hc1 := hv1.cell; have hf1 := hv1.frozen)
              refine ⟨(((KeepsOthers.of_grownBy hgr (fun j o e => by cases e)).trans (KeepsOthers.setCell _ _ _)).trans hk2).from _, TI_snoc hvX hoX HTL.out HR.out b0X b1X b2X b4X hbX HG.out H0.out HE.out hgrow hv2 ?_ hb2⟩
              rw [← HBT.out] at hr2
              exact hr2
          · rw [HBD.out] at hbad
            have he : Lex.eat x = .inl 4 := by
              unfold Lex.eat
              rw [if_neg H0.out, if_neg (fun h => by have := HK.out; omega), if_pos HK.out]
              cases ha : Lib.atoiAll x.text with
              | ok v => exact absurd ha (hbad v)
              | range => rfl
              | _ => rfl
            have HE := Lib.hid he
            clear he hbad hi0 hz0 hz1 hz2
            gi_wp2_with fail
            refine ⟨((((KeepsOthers.of_grownBy hgr (fun j o e => by cases e)).trans (KeepsOthers.setCell _ _ _)).trans (KeepsOthers.setCell _ _ _)).trans (KeepsOthers.setCell _ _ _)).from _, TX_stop HR.out HE.out b0' b1' b2' hb'⟩
        · have he : Lex.eat x = .inr ⟨x.kind, x.text, 0, x.at_⟩ := by unfold Lex.eat; rw [if_neg h0, if_neg (fun h => hk h.1), if_neg hk1']
          have hk1b : (x.kind == 1) = false := beq_eq_false_iff_ne.2 hk1'
          have HE := Lib.hid he
          have HR := Lib.hid hrun
          have HTL := Lib.hid htl
          have HBT := Lib.hid hbt
          have HG := Lib.hid hgood
          have H0 := Lib.hid h0
          clear he h0 hbt hrun htl hgood hbs hbd hk hk1'
          gi_wp2_with (gi_at_builtin; refine wpListIn_append_own _ rfl _ _ 95 rfl w.heap.size 99 i0 (.agg #[.int .i64 0, .string ⟨#[]⟩, .int .i64 0, .int .i64 0]) 4 40 Tryd.underlying95 hi0 hz0 hz1 hz2 rfl (by decide) _ _ _ rfl (ho.alloc _) ⟨W.heap.size, 0, none⟩ 1 1 [.int .i64 x.kind, .string bt, .int .i64 0, .int .i64 x.at_] rfl rfl (cells_new _ _ _) (tok_one _ _ _ _) (by unfold maxLen; omega) (by omega) (by simp; omega) ?_; intro v' w1 hown' hgrow _; obtain ⟨g', cap', rfl⟩ := ownsRow_succ hown'; obtain ⟨hv1, hv2, hr2, hk2, hb2⟩ := hv.appended (by decide) ho hnX (by omega) hown' hgrow; have hc1 := hv1.cell; have hf1 := hv1.frozen)
          refine ⟨hk2.from _, TI_snoc hv ho HTL.out HR.out b0 b1 b2 b4 hb HG.out H0.out HE.out hgrow hv2 ?_ hb2⟩
          rw [← HBT.out] at hr2
          exact hr2
  case done =>
    rintro D xs W hD rfl hi hK
    obtain ⟨⟨v, toks, hv, ho, htl, hrun⟩, b0, b1, b2, b4, hb, hgood⟩ := hi
    obtain ⟨A, n', c', rfl⟩ : ∃ A n' c', v = .slice A n' c' := by
      rcases ho.2 with ⟨rfl, _⟩ | ⟨g, cap, cur, rfl, _⟩
      · exact ⟨_, _, _, rfl⟩
      · exact ⟨_, _, _, rfl⟩
    have cv : W.cell? ⟨w.heap.size + 1 + 1 + 1, 0, none⟩ = some (.slice A n' c') := hv.cell
    have c0 := b0.cell
    have c1 := b1.cell
    have c2 : W.cell? ⟨w.heap.size + 1 + 1, 0, none⟩ = _ := b2.cell
    have f0 := b0.frozen
    have f1 := b1.frozen
    have f2 : W.frozen? ⟨w.heap.size + 1 + 1, 0, none⟩ = _ := b2.frozen
    have hr := hrun []
    rw [List.append_nil] at hr
    gi_wp2_with fail
    have hK' : (((W.setCell ⟨w.heap.size, 0, none⟩ (.slice A n' c')).setCell ⟨w.heap.size + 1, 0, none⟩ (.int .i64 0)).setCell ⟨w.heap.size + 1 + 1, 0, none⟩ (.int .i64 0)).heap[D]? = some (.deferred (some [])) :=
      (Below.heap_setCell _ _ _ _ (by show D ≠ w.heap.size + 1 + 1; omega)).trans ((Below.heap_setCell _ _ _ _ (by show D ≠ w.heap.size + 1; omega)).trans ((Below.heap_setCell _ _ _ _ (by show D ≠ w.heap.size; omega)).trans hK))
    refine ⟨by simp, .inl ⟨_, _, rfl, run_takeDeferred hK', ?_⟩⟩
    have hD0 : D ≠ w.heap.size := by omega
    have hD1 : D ≠ w.heap.size + 1 := by omega
    have hD2 : D ≠ w.heap.size + 1 + 1 := by omega
    have d0 := b0.set (.slice A n' c')
    have d1 := b1.other (B' := w.heap.size) (by omega) (.slice A n' c')
    have d2 := b2.other (B' := w.heap.size) (by omega) (.slice A n' c')
    have ho0 := ho.kept (grownBy_setCell' W w.heap.size (.slice A n' c')) (.inr (b0.not_row (by decide) ho).symm)
    have ho1 := ho0.kept (grownBy_setCell' _ (w.heap.size + 1) (.int .i64 0)) (.inr (d1.not_row (by decide) ho0).symm)
    have e0 := d0.other (B' := w.heap.size + 1) (by omega) (.int .i64 0)
    have e1 := d1.set (.int .i64 0)
    have e2 := d2.other (B' := w.heap.size + 1) (by omega) (.int .i64 0)
    have ho2 := ho1.kept (grownBy_setCell' _ (w.heap.size + 1 + 1) (.int .i64 0)) (.inr (Boxed.not_row (B := w.heap.size + 1 + 1) e2 (by decide) ho1).symm)
    have k0 := e0.other (B' := w.heap.size + 1 + 1) (by omega) (.int .i64 0)
    have k1 := e1.other (B' := w.heap.size + 1 + 1) (by omega) (.int .i64 0)
    have k2 := Boxed.set (B := w.heap.size + 1 + 1) (.int .i64 0) e2
    have m0 := (k0.kept (grownBy_putObj' _ D (.deferred none)) (by intro e; cases e; exact hD0 rfl)).cell
    have m1 := (k1.kept (grownBy_putObj' _ D (.deferred none)) (by intro e; cases e; exact hD1 rfl)).cell
    have m2 := (k2.kept (grownBy_putObj' _ D (.deferred none)) (by intro e; cases e; exact hD2 rfl)).cell
    have hoF := ownsRow_putObj ho2 (.deferred none) hK' rfl
    have hbF := ((((hb.setCell (p := ⟨w.heap.size, 0, none⟩) (Nat.le_refl _) (.slice A n' c')).setCell (p := ⟨w.heap.size + 1, 0, none⟩) (by show w.heap.size ≤ w.heap.size + 1; omega) (.int .i64 0)).setCell (p := ⟨w.heap.size + 1 + 1, 0, none⟩) (by show w.heap.size ≤ w.heap.size + 1 + 1; omega) (.int .i64 0))).trans (belowK_b (w := w) (Nat.le_refl _) _ D _ (.deferred none) (by omega) hK' rfl rfl)
    refine ⟨.tuple #[.slice A n' c', .int .i64 0, .int .i64 0], ?_, _, toks, 0, 0, hr, rfl, hoF, hbF⟩
    generalize World.putObj _ D (.deferred none) = Wf at m0 m1 m2 ⊢
    simp [results, Tryd.results42, go_sem, m0, m1, m2]
  case stop =>
    rintro D pre W hD ⟨hpre, hne⟩ hx hK
    obtain ⟨k, e, hrun, b0, b1, b2, hb⟩ := hx
    have hD0 : D ≠ w.heap.size := by omega
    have hD1 : D ≠ w.heap.size + 1 := by omega
    have hD2 : D ≠ w.heap.size + 1 + 1 := by omega
    gi_wp2_with fail
    refine ⟨by simp, .inl ⟨_, _, rfl, run_takeDeferred hK, ?_⟩⟩
    have m0 := (b0.kept (grownBy_putObj' _ D (.deferred none)) (by intro e; cases e; exact hD0 rfl)).cell
    have m1 := (b1.kept (grownBy_putObj' _ D (.deferred none)) (by intro e; cases e; exact hD1 rfl)).cell
    have m2 := (Boxed.kept (B := w.heap.size + 1 + 1) b2 (grownBy_putObj' _ D (.deferred none)) (by intro e; cases e; exact hD2 rfl)).cell
    have hbF := hb.trans (belowK_b (w := w) (Nat.le_refl _) _ D _ (.deferred none) (by omega) hK rfl rfl)
    obtain ⟨ys, hys⟩ := hpre
    have hr := hrun ys
    rw [hys] at hr
    refine ⟨.tuple #[.slice none 0 0, .int .i64 k, .int .i64 e], ?_, _, [], k, e, hr, rfl, World.ownsRow_nil _ _ _ _, hbF⟩
    generalize World.putObj _ D (.deferred none) = Wf at m0 m1 m2 ⊢
    simp [results, Tryd.results42, go_sem, m0, m1, m2]
end Go.Proofs.YtmahdomlmidfdaaDoor
