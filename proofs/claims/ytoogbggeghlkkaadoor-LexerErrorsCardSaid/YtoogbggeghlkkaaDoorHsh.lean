/- hash.Sum walked, for the one label that the laws use and one number. -/
import Derived.Test.YtoogbggeghlkkaaDoorXx0
import Derived.Test.YtoogbggeghlkkaaDoorRf
import Derived.Test.YtoogbggeghlkkaaDoorLext
namespace Go.Proofs.YtoogbggeghlkkaaDoor
open Go.RowKit Go.Proofs.YtoogbggeghlkkaaDoorW.PrintWords
attribute [local go_sem] Oper.semAt_some
set_option linter.unusedSimpArgs false
set_option linter.unusedVariables false

def mixF (a b : Int) : Int := bits BinOp.xor IntKind.u64 (IntKind.u64.wrap (bits BinOp.xor IntKind.u64 a b * 11400714819323198485)) (IntKind.u64.wrap (bits BinOp.xor IntKind.u64 a b * 11400714819323198485) / 4294967296)
theorem mix_calls (a b : Int) (w : World) : Calls Tryd.prog 30 #[.int .u64 a, .int .u64 b] w fun e w' => e = .returned (.int .u64 (mixF a b)) ∧ w' = w := by
  go_enter Tryd.func30, Tryd.ntmps30
  go_wp2
  go_ret
  exact ⟨rfl, rfl⟩
theorem words_calls (s : ByteArray) (w : World) : Calls Tryd.prog 29 #[.string s] w fun e w' => e = .returned (.func (.func 48) #[] #[.pointer (some ⟨w.heap.size, 0, none⟩)]) ∧ w' = w.alloc (.cells #[.string s] 9) := by
  go_enter Tryd.func29, Tryd.ntmps29
  go_wp2
  go_ret
  exact ⟨rfl, rfl⟩

def lineS : ByteArray := ⟨#[108, 105, 110, 101]⟩
def wordN : Nat → Int
  | 0 => 0
  | 1 => 108
  | 2 => 26988
  | 3 => 7235948
  | _ => 1701734764

set_option maxRecDepth 100000 in
set_option maxHeartbeats 2000000 in
theorem words1 (n l Bs n0 : Nat) (J Jx : List Int → World → Prop)
    (hY : ∀ pre x W, J pre W → pre.length < 1 → YieldAt Fence.wide (n - 1) Tryd.prog l #[.int .u64 x] W fun e W' =>
      (e = .returned (.bool true) ∧ J (pre ++ [x]) W' ∧ W'.cell? ⟨Bs, 0, none⟩ = some (.string lineS)) ∨ (e = .returned (.bool false) ∧ Jx (pre ++ [x]) W'))
    (W : World) (hc : W.cell? ⟨Bs, 0, none⟩ = some (.string lineS)) (h0 : J [] W) :
    CallsIn Fence.wide n Tryd.prog 48 #[.func (.yield l) #[] #[], .pointer (some ⟨Bs, 0, none⟩)] W fun e W' => (∃ v, e = .returned v) ∧ (J [1701734764] W' ∨ Jx [1701734764] W') := by
  refine callsIn_of_wp Tryd.func48 rfl trivial ?_ rfl
  simp only [Tryd.ntmps48, List.size_toArray, List.length_cons, List.length_nil, Nat.reduceAdd, Nat.reduceSub, Array.replicate_succ, Array.replicate_zero, List.push_toArray, List.append_toArray, List.nil_append, List.cons_append]
  have hls : lineS.size = 4 := rfl
  gi_wp2
  gi_loopw [3] (fun v wr => (v = .int .i64 0 ∧ wr.cell? ⟨Bs, 0, none⟩ = some (.string lineS) ∧ J [] wr) ∨ (v = .int .i64 8 ∧ wr.cell? ⟨Bs, 0, none⟩ = some (.string lineS) ∧ J [1701734764] wr))
    (fun v wr => 8 - (intOf v).toNat)
  case atStart => exact .inl ⟨rfl, hc, h0⟩
  case round =>
    rcases hrel with ⟨rfl, hcell, hj⟩ | ⟨rfl, hcell, hj⟩
    · gi_wp2_with fail
      gi_loopw [4, 5] (fun v4 v5 wr2 => ∃ p : Nat, p ≤ 4 ∧ v4 = .int .u64 (wordN p) ∧ v5 = .int .i64 p ∧ wr2 = wr)
        (fun v4 v5 wr2 => 4 - (intOf v5).toNat)
      case atStart => exact ⟨0, by omega, rfl, rfl, rfl⟩
      case round =>
        obtain ⟨p, hp, rfl, rfl, rfl⟩ := hrel
        rcases p with _ | _ | _ | _ | _ | p
        · gi_wp2_with fail
          go_roundw
          case rel => exact ⟨1, by omega, by first | kernel_rfl | exact congrArg (Value.int IntKind.u64) (by decide +kernel), by rfl, by trivial⟩
          case measure => simp [intOf]
        · gi_wp2_with fail
          go_roundw
          case rel => exact ⟨2, by omega, by first | kernel_rfl | exact congrArg (Value.int IntKind.u64) (by decide +kernel), by rfl, by trivial⟩
          case measure => simp [intOf]
        · gi_wp2_with fail
          go_roundw
          case rel => exact ⟨3, by omega, by first | kernel_rfl | exact congrArg (Value.int IntKind.u64) (by decide +kernel), by rfl, by trivial⟩
          case measure => simp [intOf]
        · gi_wp2_with fail
          go_roundw
          case rel => exact ⟨4, by omega, by first | kernel_rfl | exact congrArg (Value.int IntKind.u64) (by decide +kernel), by rfl, by trivial⟩
          case measure => simp [intOf]
        · obtain ⟨fn, tmps, assign, body, hy, hR⟩ := hY [] 1701734764 _ hj (by decide)
          have hw4 : wordN (0 + 1 + 1 + 1 + 1) = 1701734764 := rfl
          rw [hw4]
          gi_wp2_with fail
          refine ⟨(fun h => by cases h), ?_⟩
          refine hR.mono ?_
          rintro e W3 (⟨rfl, hJ3, hc3⟩ | ⟨rfl, hJx3⟩)
          · clear hy hR
            gi_wp2_with fail
            go_roundw
            case rel => exact .inr ⟨by rfl, hc3, hJ3⟩
            case measure => simp [intOf]
          · clear hy hR
            gi_wp2_with fail
            refine bodyPost_ret (results_none rfl _ _ _) rfl ?_
            exact ⟨⟨_, rfl⟩, .inr hJx3⟩
        · omega
    · gi_wp2_with fail
      go_end0
      exact ⟨⟨_, rfl⟩, .inl hj⟩

/-- What the caller of the iterator keeps between two rounds. -/
def HI (w : World) (pre : List Int) (W : World) : Prop :=
  Boxed W w.heap.size 48 (.int .u64 (pre.foldl mixF 0)) ∧ Boxed W (w.heap.size + 1) 9 (.string lineS) ∧ Below w.heap.size w W
theorem HI.grown {w A B : World} {pre : List Int} {row : Option Nat} (h : HI w pre A) (hg : A.grownBy B row) (hr : ∀ k, row = some k → w.heap.size ≤ k ∧ ∃ o, A.heap[k]? = some o ∧ o.isCells = false) : HI w pre B := by
  obtain ⟨h0, h1, hb⟩ := h
  have hne : ∀ {k t u}, Boxed A k t u → some k ≠ row := fun hk e => by
    obtain ⟨_, o, h1, h2⟩ := hr _ e.symm
    rw [show A.heap[_]? = _ from hk] at h1; cases h1; cases h2
  exact ⟨h0.kept hg (hne h0), h1.kept hg (hne h1), hb.grown hg hb.size (fun k e => (hr k e).1)⟩

theorem cell_ltA {w : World} {a : Addr} {v : Value} (h : w.cell? a = some v) : a.block < w.heap.size := by
  rcases Nat.lt_or_ge a.block w.heap.size with h1 | h1
  · exact h1
  · simp [World.cell?, Array.getElem?_eq_none h1] at h
def sumF (x : Int) : Int := mixF (mixF (mixF (mixF (mixF 0 1701734764) 4) 1) (IntKind.u64.wrap x)) 0

set_option maxRecDepth 100000 in
set_option maxHeartbeats 4000000 in
theorem sum_calls (a : Addr) (c1 : Nat) (x : Int) (w : World) (hx : w.cell? a = some (.int .i64 x)) (hc1 : 1 ≤ c1) :
    Calls Tryd.prog 22 #[.string lineS, .slice (some a) 1 c1] w fun e w' => e = .returned (.int .u64 (sumF x)) ∧ Below w.heap.size w w' := by
  refine (callsIn_wide (n := 3)).1 ?_
  refine callsIn_of_wp_marks Tryd.func22 rfl trivial ?_ rfl
  simp only [Tryd.ntmps22, List.size_toArray, List.length_cons, List.length_nil, Nat.reduceAdd, Nat.reduceSub, Array.replicate_succ, Array.replicate_zero, List.push_toArray, List.append_toArray, List.nil_append, List.cons_append]
  have hls : lineS.size = 4 := rfl
  gi_wp2_with fail
  refine ⟨trivial, ?_⟩
  refine (callsIn_wide.2 (words_calls _ _)).mono ?_
  rintro e w1 ⟨rfl, rfl⟩
  gi_wp2_with fail
  have hI0 : HI w [] ((w.alloc (.cells #[.int .u64 0] 48)).alloc (.cells #[.string lineS] 9)) := by
    have b0 := (Boxed.new w 48 (.int .u64 0)).alloc (.cells #[.string lineS] 9)
    have b1 := Boxed.new (w.alloc (.cells #[.int .u64 0] 48)) 9 (.string lineS)
    simp only [World.size_alloc] at b1
    exact ⟨b0, b1, ((Below.refl _ w).alloc (Nat.le_refl _) _).alloc (by simp) _⟩
  obtain ⟨W0, hW0⟩ : ∃ W0, (w.alloc (.cells #[.int .u64 0] 48)).alloc (.cells #[.string lineS] 9) = W0 := ⟨_, rfl⟩
  have hsz : W0.heap.size = w.heap.size + 2 := by rw [← hW0]; simp
  rw [hW0] at hI0 ⊢
  have hcS := hI0.2.1.cell
  refine rf_law (n := 3) (gf := 48) (lb := #[.pointer (some ⟨w.heap.size + 1, 0, none⟩)]) rfl (enters_of Tryd.func48 (by kernel_rfl) rfl) (fun x : Int => #[.int .u64 x]) (fun _ => rfl) 1 (fun _ => True)
    (fun xs => xs = [1701734764]) (fun pre => True) (HI w) (fun _ _ => False)
    (fun pre A B hA hb => hA.grown (grown_of_below hb none) (fun k e => by cases e))
    (fun pre W l o o' hl ho hc hi => hi.grown (grownBy_putObj' W l o') (fun k e => by cases e; exact ⟨by omega, o, ho, hc⟩))
    (fun pre W l o o' hl ho hc hi => hi.elim)
    hI0 ?seq
    (fun x a' W => a' = { tmps := #[.string lineS, .slice (some a) 1 c1, undef, undef, .int .u64 0, .pointer (some ⟨w.heap.size, 0, none⟩), .int .u64 x, undef, undef, .string lineS, .func (.func 48) #[] #[.pointer (some ⟨w.heap.size + 1, 0, none⟩)], .int .u64 x, undef, undef, undef, undef, undef, undef, undef, undef, undef, undef, undef, undef, undef, undef, undef, undef, undef, undef, undef, undef, undef, undef, undef, undef, undef], defers := [] })
    ?hAx ?assign ?body ?done ?stop
  case seq =>
    intro l J Jx W1 hb1 hJI hJb hY h0
    refine (words1 (3 - 1) l (w.heap.size + 1) 0 J Jx ?_ W1 ((hb1.cell (p := ⟨w.heap.size + 1, 0, none⟩) (by show w.heap.size + 1 < _; omega)).trans hcS) h0).mono ?_
    · intro pre x W hj hl
      refine YieldAt.mono (hY pre x W hj hl trivial) ?_
      rintro e W' (⟨rfl, hj'⟩ | ⟨rfl, hj'⟩)
      · exact .inl ⟨rfl, hj', (hJI _ _ hj').2.1.cell⟩
      · exact .inr ⟨rfl, hj'⟩
    · rintro e W' ⟨hv, hq | hq⟩
      · exact ⟨hv, .inl ⟨_, rfl, hq⟩⟩
      · exact ⟨hv, .inr ⟨_, trivial, hq⟩⟩
  case hAx =>
    rintro x a' W l o o' hl ho hc h
    exact h
  case assign =>
    rintro l pre x W K hi hK
    gi_wp2
    exact hK _ _ (KeepsFrom.refl _ _) hi rfl
  case body =>
    rintro l pre x a' W hi rfl hlen _
    obtain ⟨b0, b1, hb⟩ := id hi
    have c0 := b0.cell
    have f0 := b0.frozen
    gi_wp2_with fail
    refine ⟨trivial, ?_⟩
    refine (CallsIn.inRound l (callsIn_wide.2 (mix_calls _ _ _))).mono ?_
    rintro e w2 ⟨rfl, rfl⟩
    gi_wp2_with fail
    refine ⟨(KeepsOthers.setCell _ _ _).from _, ?_⟩
    have e : (pre ++ [x]).foldl mixF 0 = mixF (pre.foldl mixF 0) x := by rw [List.foldl_append]; rfl
    exact ⟨by rw [e]; exact b0.set _, b1.other (by omega) _, hb.setCell (p := ⟨w.heap.size, 0, none⟩) (Nat.le_refl _) _⟩
  case done =>
    rintro D xs W hD rfl hi hK
    obtain ⟨b0, b1, hb⟩ := id hi
    have c0 := b0.cell
    have f0 := b0.frozen
    gi_wp2_with fail
    refine ⟨trivial, ?_⟩
    refine (callsIn_wide.2 (mix_calls _ _ _)).mono ?_
    rintro e w2 ⟨rfl, rfl⟩
    gi_wp2_with fail
    refine ⟨trivial, ?_⟩
    refine (callsIn_wide.2 (mix_calls _ _ _)).mono ?_
    rintro e w2 ⟨rfl, rfl⟩
    gi_wp2_with fail
    have hD0 : D ≠ w.heap.size := by omega
    have hlt := cell_ltA hx
    have b3 := b0.set (.int .u64 (mixF (mixF (mixF 0 1701734764) 4) 1))
    have hb3 : Below w.heap.size w (w2.setCell ⟨w.heap.size, 0, none⟩ (.int .u64 (mixF (mixF (mixF 0 1701734764) 4) 1))) := hb.setCell (p := ⟨w.heap.size, 0, none⟩) (Nat.le_refl _) _
    have hK3 := (Below.heap_setCell w2 ⟨w.heap.size, 0, none⟩ (.int .u64 (mixF (mixF (mixF 0 1701734764) 4) 1)) D hD0).trans hK
    gi_loopw [26] (fun v wr => ((v = .int .i64 0 ∧ Boxed wr w.heap.size 48 (.int .u64 (mixF (mixF (mixF 0 1701734764) 4) 1))) ∨ (v = .int .i64 1 ∧ Boxed wr w.heap.size 48 (.int .u64 (mixF (mixF (mixF (mixF 0 1701734764) 4) 1) (IntKind.u64.wrap x))))) ∧ Below w.heap.size w wr ∧ wr.heap[D]? = some (.deferred (some [])))
      (fun v wr => 1 - (intOf v).toNat)
    case atStart => exact ⟨.inl ⟨rfl, b3⟩, hb3, hK3⟩
    case round =>
      obtain ⟨(⟨rfl, bx⟩ | ⟨rfl, bx⟩), hbr, hKr⟩ := hrel
      · have c0 := bx.cell
        have f0 := bx.frozen
        have ca : wr.cell? a = some (.int .i64 x) := (hbr.cell hlt).trans hx
        gi_wp2_with fail
        refine ⟨trivial, ?_⟩
        refine (callsIn_wide.2 (mix_calls _ _ _)).mono ?_
        rintro e w4 ⟨rfl, rfl⟩
        gi_wp2_with fail
        go_roundw
        case rel => exact ⟨.inr ⟨by rfl, bx.set _⟩, hbr.setCell (p := ⟨w.heap.size, 0, none⟩) (Nat.le_refl _) _, (Below.heap_setCell _ ⟨w.heap.size, 0, none⟩ _ D hD0).trans hKr⟩
        case measure => simp [intOf]
      · have c0 := bx.cell
        have f0 := bx.frozen
        gi_wp2_with fail
        refine ⟨trivial, ?_⟩
        refine (callsIn_wide.2 (mix_calls _ _ _)).mono ?_
        rintro e w4 ⟨rfl, rfl⟩
        gi_wp2_with fail
        refine ⟨by simp, .inl ⟨_, _, rfl, run_takeDeferred hKr, ?_⟩⟩
        have hbF := hbr.trans (belowK_b (w := w) (Nat.le_refl _) _ D _ (.deferred none) (by omega) hKr rfl rfl)
        refine ⟨.int .u64 (sumF x), ?_, rfl, hbF⟩
        generalize World.putObj _ D (.deferred none) = Wf
        simp [results, Tryd.results22, go_sem, sumF]
  case stop =>
    rintro D pre W hD _ hx hK
    exact hx.elim
end Go.Proofs.YtoogbggeghlkkaaDoor
