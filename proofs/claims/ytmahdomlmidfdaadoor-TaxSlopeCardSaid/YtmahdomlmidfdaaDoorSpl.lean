/- The walk of share.Split where the products are below 2^64, at fewer than twenty parts. -/
import Derived.Test.YtmahdomlmidfdaaDoorStb
import Derived.Test.YtmahdomlmidfdaaDoorRgi
import Derived.Deep.RegionHeld3
import Derived.Test.YtmahdomlmidfdaaDoorWMore
import Derived.Test.YtmahdomlmidfdaaDoorWLast
namespace Go.Proofs.YtmahdomlmidfdaaDoor
open Go.RowKit Go.Shelf Go.Proofs.YtmahdomlmidfdaaDoorW.PrintWords Go.Proofs.YtmahdomlmidfdaaDoorW.PrintLast Go.Proofs.YtmahdomlmidfdaaDoorW.PrintMore
set_option linter.unusedVariables false

def sumI (l : List Int) : Int := l.foldr (· + ·) 0
def quo (T S : Nat) (l : List Int) : List Int := l.map fun x => ((T * x.toNat / S : Nat) : Int)
def rem (T S : Nat) (l : List Int) : List Int := l.map fun x => ((T * x.toNat % S : Nat) : Int)
def idxs (n : Nat) : List Int := (List.range n).map fun k : Nat => (k : Int)
def bump (out : List Int) : List Int → List Int
  | [] => out
  | i :: is => bump (out.set i.toNat (out.getD i.toNat 0 + 1)) is
/-- What Split computes. -/
def splitS (T : Nat) (l : List Int) : List Int :=
  let S := (sumI l).toNat
  bump (quo T S l) ((sortS (rem T S l) (idxs l.length)).take (T - (sumI (quo T S l)).toNat))
/-- Where Split is told. -/
def okSplit (T : Int) (l : List Int) : Bool :=
  decide (0 ≤ T) && decide (T ≤ 1099511627776) && l.all (fun x => decide (0 ≤ x) && decide (x ≤ 1099511627776) && decide (T.toNat * x.toNat < 18446744073709551616)) && decide (0 < sumI l) && decide (0 < l.length) && decide (l.length < 20) && decide (sumI (quo T.toNat (sumI l).toNat l) ≤ T) && decide (T ≤ sumI (quo T.toNat (sumI l).toNat l) + l.length)

theorem Ints_of_R {w : World} {base : Nat} {ok : Nat → Prop} {v : Value} {D : List Int} (h : Kd.R (Kd.int .i64) 3 w base ok v D) (hp : 0 < D.length) : ∃ g cap, v = .slice (some ⟨g, 0, none⟩) D.length cap ∧ base ≤ g ∧ g < w.heap.size ∧ Ints w g D := by
  have ho := Kd.own_of_R h
  obtain ⟨h1, h2 | ⟨g, cap, cur, hv, hg, hh, hc1, hc2, hc3, hc4⟩⟩ := ho
  · omega
  · refine ⟨g, cap, hv, hg, blk_lt hh, cur.toList.drop D.length, ?_⟩
    rw [hh]
    have e : D.map (Value.int .i64) = cur.toList.take D.length := by
      rw [Nat.mul_one] at hc4
      exact hc4.symm
    rw [e, List.take_append_drop]
theorem sumI_nonneg {l : List Int} (h : ∀ x ∈ l, 0 ≤ x) : 0 ≤ sumI l := by
  induction l with
  | nil => exact Int.le_refl _
  | cons x l ih =>
    have h1 := h x (by simp)
    have h2 := ih (fun y hy => h y (by simp [hy]))
    show 0 ≤ x + sumI l
    omega
theorem sumI_snoc (l : List Int) (x : Int) : sumI (l ++ [x]) = sumI l + x := by
  induction l with
  | nil => simp [sumI]
  | cons y l ih =>
    show y + sumI (l ++ [x]) = y + sumI l + x
    rw [ih]; omega
theorem sumI_mem {l : List Int} (h : ∀ x ∈ l, 0 ≤ x) {x : Int} (hx : x ∈ l) : x ≤ sumI l := by
  induction l with
  | nil => cases hx
  | cons y l ih =>
    have h1 := h y (by simp)
    have h2 := sumI_nonneg (fun z hz => h z (by simp [hz]) : ∀ z ∈ l, 0 ≤ z)
    show x ≤ y + sumI l
    rcases List.mem_cons.1 hx with rfl | hx
    · omega
    · have := ih (fun z hz => h z (by simp [hz])) hx; omega
theorem sumI_le {l : List Int} {B : Int} (hB : 0 ≤ B) (h : ∀ x ∈ l, x ≤ B) : sumI l ≤ l.length * B := by
  induction l with
  | nil => simp [sumI]
  | cons x l ih =>
    have h1 := h x (by simp)
    have h2 := ih (fun y hy => h y (by simp [hy]))
    show x + sumI l ≤ _
    rw [List.length_cons]
    have : ((l.length + 1 : Nat) : Int) * B = l.length * B + B := by push_cast; rw [Int.add_mul, Int.one_mul]
    omega

theorem quo_get (T S : Nat) (l : List Int) (k : Nat) (h : k < (quo T S l).length) (h' : k < l.length) : (quo T S l)[k] = ((T * l[k].toNat / S : Nat) : Int) := by simp [quo]
theorem rem_get (T S : Nat) (l : List Int) (k : Nat) (h : k < (rem T S l).length) (h' : k < l.length) : (rem T S l)[k] = ((T * l[k].toNat % S : Nat) : Int) := by simp [rem]
theorem bump_snoc (p : Int) : ∀ (is out : List Int), bump out (is ++ [p]) = (bump out is).set p.toNat ((bump out is).getD p.toNat 0 + 1)
  | [], out => rfl
  | i :: is, out => bump_snoc p is _
theorem bump_len : ∀ (is out : List Int), (bump out is).length = out.length
  | [], out => rfl
  | i :: is, out => by show (bump (out.set _ _) is).length = _; rw [bump_len is, List.length_set]
theorem fill_step (F : List Int) (k : Nat) (v : Int) (hk : k < F.length) (hv : F[k] = v) : (F.take k ++ List.replicate (F.length - k) 0).set k v = F.take (k + 1) ++ List.replicate (F.length - (k + 1)) 0 := by
  have e1 : F.length - k = (F.length - (k + 1)) + 1 := by omega
  rw [e1, List.replicate_succ, set_one _ _ _ _ k (by rw [List.length_take]; omega), List.take_succ_eq_append_getElem hk, hv]
  simp
/-- v is a slice of n zeros that the call has made, in block g. -/
def MadeI (W : World) (B n : Nat) (v : Value) (g : Nat) : Prop := v.ownBlock = some g ∧ Kd.R (Kd.int .i64) 3 W B (fun k => k = g) v (List.replicate n 0)
def mk4 (i : Nat) : Prop := i = 1 ∨ i = 3 ∨ i = 5 ∨ i = 6
structure RS (w0 : World) (n : Nat) (L : Nat → Bool) (s : Nat → Value) (W : World) : Prop where
  bel : Below w0.heap.size w0 W
  p0 : L 0 = true → s 46 = .int .i64 n
  p2 : L 2 = true → s 48 = .int .i64 n
  p4 : L 4 = true → s 50 = .int .i64 n
  p7 : L 7 = true → s 10 = s 47 ∧ L 1 = true
  p9 : L 9 = true → s 12 = s 51 ∧ L 5 = true
  p8 : L 8 = true → L 6 = true ∧ L 3 = true
  ex : ∃ G : Nat → Nat, (∀ i j, mk4 i → mk4 j → L i = true → L j = true → i ≠ j → G i ≠ G j) ∧ (∀ i, mk4 i → L i = true → w0.heap.size ≤ G i ∧ G i < W.heap.size) ∧
    (L 1 = true → MadeI W w0.heap.size n (s 47) (G 1)) ∧ (L 3 = true → MadeI W w0.heap.size n (s 49) (G 3)) ∧ (L 5 = true → MadeI W w0.heap.size n (s 51) (G 5)) ∧
    (L 6 = true → s 11 = .pointer (some ⟨G 6, 0, none⟩) ∧ W.heap[G 6]? = some (.cells #[if L 8 = true then s 49 else .slice none 0 0] 22 (0, 0)))
theorem MadeI.below {W W' : World} {B n g : Nat} {v : Value} (h : MadeI W B n v g) (hb : Below W.heap.size W W') : MadeI W' B n v g := ⟨h.1, Kd.R_below h.2 hb⟩
theorem MadeI.far {W : World} {B n g : Nat} {v : Value} (h : MadeI W B n v g) {p : Addr} (hp : g ≠ p.block) (u : Value) : MadeI (W.setCell p u) B n v g := ⟨h.1, Kd.R_far h.2 (fun k hk => by rw [hk]; exact hp) u⟩
theorem RS.start (w0 : World) (n : Nat) (s : Nat → Value) : RS w0 n (fun _ => false) s w0.drew := by
  refine ⟨below_drew (Below.refl _ _), ?_, ?_, ?_, ?_, ?_, ?_, fun _ => 0, ?_, ?_, ?_, ?_, ?_, ?_⟩
  · intro h; cases h
  · intro h; cases h
  · intro h; cases h
  · intro h; cases h
  · intro h; cases h
  · intro h; cases h
  · intro _ _ _ _ h; cases h
  · intro _ _ h; cases h
  · intro h; cases h
  · intro h; cases h
  · intro h; cases h
  · intro h; cases h
/-- A value is moved by the operation i. -/
theorem RS.moved {w0 W : World} {n i : Nat} {L : Nat → Bool} {s s' : Nat → Value} (h : RS w0 n L s W) (hi : i = 0 ∨ i = 2 ∨ i = 4 ∨ i = 7 ∨ i = 9)
    (e47 : s' 47 = s 47) (e49 : s' 49 = s 49) (e51 : s' 51 = s 51) (e11 : s' 11 = s 11) (e46 : i ≠ 0 → s' 46 = s 46) (e48 : i ≠ 2 → s' 48 = s 48) (e50 : i ≠ 4 → s' 50 = s 50) (e10 : i ≠ 7 → s' 10 = s 10) (e12 : i ≠ 9 → s' 12 = s 12)
    (f0 : i = 0 → s' 46 = .int .i64 n) (f2 : i = 2 → s' 48 = .int .i64 n) (f4 : i = 4 → s' 50 = .int .i64 n) (f7 : i = 7 → s' 10 = s 47 ∧ L 1 = true) (f9 : i = 9 → s' 12 = s 51 ∧ L 5 = true) : RS w0 n (fun k => k == i || L k) s' W := by
  have hor : ∀ k, k ≠ i → ((k == i || L k) = true ↔ L k = true) := fun k hk => by simp [hk]
  have keep : ∀ k, L k = true → (k == i || L k) = true := fun k hk => by simp [hk]
  have m : ∀ k, mk4 k → k ≠ i := by rintro k hk; unfold mk4 at hk; omega
  obtain ⟨G, g1, g2, g3, g4, g5, g6⟩ := h.ex
  refine ⟨h.bel, ?_, ?_, ?_, ?_, ?_, ?_, G, ?_, ?_, ?_, ?_, ?_, ?_⟩
  · intro q
    by_cases hk : i = 0
    · exact f0 hk
    · rw [e46 hk]; exact h.p0 ((hor 0 (Ne.symm hk)).1 q)
  · intro q
    by_cases hk : i = 2
    · exact f2 hk
    · rw [e48 hk]; exact h.p2 ((hor 2 (Ne.symm hk)).1 q)
  · intro q
    by_cases hk : i = 4
    · exact f4 hk
    · rw [e50 hk]; exact h.p4 ((hor 4 (Ne.symm hk)).1 q)
  · intro q
    by_cases hk : i = 7
    · exact ⟨by rw [e47]; exact (f7 hk).1, keep 1 (f7 hk).2⟩
    · have := h.p7 ((hor 7 (Ne.symm hk)).1 q)
      exact ⟨by rw [e10 hk, e47]; exact this.1, keep 1 this.2⟩
  · intro q
    by_cases hk : i = 9
    · exact ⟨by rw [e51]; exact (f9 hk).1, keep 5 (f9 hk).2⟩
    · have := h.p9 ((hor 9 (Ne.symm hk)).1 q)
      exact ⟨by rw [e12 hk, e51]; exact this.1, keep 5 this.2⟩
  · intro q
    have := h.p8 ((hor 8 (by omega)).1 q)
    exact ⟨keep 6 this.1, keep 3 this.2⟩
  · intro a b ha hb hLa hLb hab
    exact g1 a b ha hb ((hor a (m a ha)).1 hLa) ((hor b (m b hb)).1 hLb) hab
  · intro a ha hLa
    exact g2 a ha ((hor a (m a ha)).1 hLa)
  · intro q; rw [e47]; exact g3 ((hor 1 (by omega)).1 q)
  · intro q; rw [e49]; exact g4 ((hor 3 (by omega)).1 q)
  · intro q; rw [e51]; exact g5 ((hor 5 (by omega)).1 q)
  · intro q
    have q1 := g6 ((hor 6 (by omega)).1 q)
    rw [e11, e49]
    refine ⟨q1.1, q1.2.trans ?_⟩
    have h8 : ((8 == i || L 8) = true) ↔ L 8 = true := hor 8 (by omega)
    by_cases hx : L 8 = true
    · rw [if_pos hx, if_pos (h8.2 hx)]
    · rw [if_neg hx, if_neg (fun q => hx (h8.1 q))]
/-- The store into the box. -/
theorem RS.stored {w0 W : World} {n g6 : Nat} {L : Nat → Bool} {s : Nat → Value} (h : RS w0 n L s W) (h6 : L 6 = true) (h3 : L 3 = true) (h11 : s 11 = .pointer (some ⟨g6, 0, none⟩)) : RS w0 n (fun k => k == 8 || L k) s (W.setCell ⟨g6, 0, none⟩ (s 49)) := by
  have hor : ∀ k, k ≠ 8 → ((k == 8 || L k) = true ↔ L k = true) := fun k hk => by simp [hk]
  have keep : ∀ k, L k = true → (k == 8 || L k) = true := fun k hk => by simp [hk]
  have m : ∀ k, mk4 k → k ≠ 8 := by rintro k hk; unfold mk4 at hk; omega
  obtain ⟨G, g1, g2, g3, g4, g5, q6⟩ := h.ex
  obtain ⟨e6, c6⟩ := q6 h6
  have hg : G 6 = g6 := by rw [h11] at e6; injection e6 with e6; injection e6 with e6; injection e6 with e6; exact e6.symm
  subst hg
  have d : ∀ k, (k = 1 ∨ k = 3 ∨ k = 5) → L k = true → G k ≠ G 6 := fun k hk hL => g1 k 6 (by unfold mk4; omega) (by unfold mk4; omega) hL h6 (by omega)
  refine ⟨h.bel.setCell (g2 6 (by unfold mk4; omega) h6).1 _, fun q => h.p0 ((hor 0 (by decide)).1 q), fun q => h.p2 ((hor 2 (by decide)).1 q), fun q => h.p4 ((hor 4 (by decide)).1 q), ?_, ?_, fun _ => ⟨keep 6 h6, keep 3 h3⟩, G, ?_, ?_, ?_, ?_, ?_, ?_⟩
  · intro q
    have := h.p7 ((hor 7 (by decide)).1 q)
    exact ⟨this.1, keep 1 this.2⟩
  · intro q
    have := h.p9 ((hor 9 (by decide)).1 q)
    exact ⟨this.1, keep 5 this.2⟩
  · intro a b ha hb hLa hLb hab
    exact g1 a b ha hb ((hor a (m a ha)).1 hLa) ((hor b (m b hb)).1 hLb) hab
  · intro a ha hLa
    have := g2 a ha ((hor a (m a ha)).1 hLa)
    exact ⟨this.1, Nat.lt_of_lt_of_le this.2 (((Below.refl 0 W).setCell (p := ⟨G 6, 0, none⟩) (Nat.zero_le _) (s 49)).size)⟩
  · intro q; have q' := (hor 1 (by decide)).1 q; exact (g3 q').far (d 1 (by omega) q') _
  · intro q; have q' := (hor 3 (by decide)).1 q; exact (g4 q').far (d 3 (by omega) q') _
  · intro q; have q' := (hor 5 (by decide)).1 q; exact (g5 q').far (d 5 (by omega) q') _
  · intro _
    refine ⟨e6, (blk_set c6 0 _).trans ?_⟩
    rw [if_pos (show (8 == 8 || L 8) = true from rfl)]
    rfl
/-- A new block for the operation i. -/
theorem RS.fresh {w0 W W' : World} {n i : Nat} {L : Nat → Bool} {s s' : Nat → Value} (h : RS w0 n L s W) (hi : mk4 i) (hL : L i = false) (hb : Below W.heap.size W W') (hsz : W.heap.size < W'.heap.size)
    (e10 : s' 10 = s 10) (e12 : s' 12 = s 12) (e46 : s' 46 = s 46) (e48 : s' 48 = s 48) (e50 : s' 50 = s 50) (e47 : i ≠ 1 → s' 47 = s 47) (e49 : i ≠ 3 → s' 49 = s 49) (e51 : i ≠ 5 → s' 51 = s 51) (e11 : i ≠ 6 → s' 11 = s 11)
    (f1 : i = 1 → MadeI W' w0.heap.size n (s' 47) W.heap.size) (f3 : i = 3 → MadeI W' w0.heap.size n (s' 49) W.heap.size) (f5 : i = 5 → MadeI W' w0.heap.size n (s' 51) W.heap.size)
    (f6 : i = 6 → s' 11 = .pointer (some ⟨W.heap.size, 0, none⟩) ∧ W'.heap[W.heap.size]? = some (.cells #[.slice none 0 0] 22 (0, 0))) : RS w0 n (fun k => k == i || L k) s' W' := by
  have hbel := h.bel.trans (hb.mono h.bel.size)
  have hor : ∀ k, k ≠ i → ((k == i || L k) = true ↔ L k = true) := fun k hk => by simp [hk]
  have n0 : (0 : Nat) ≠ i := by rcases hi with rfl | rfl | rfl | rfl <;> decide
  have n2 : (2 : Nat) ≠ i := by rcases hi with rfl | rfl | rfl | rfl <;> decide
  have n4 : (4 : Nat) ≠ i := by rcases hi with rfl | rfl | rfl | rfl <;> decide
  have n7 : (7 : Nat) ≠ i := by rcases hi with rfl | rfl | rfl | rfl <;> decide
  have n8 : (8 : Nat) ≠ i := by rcases hi with rfl | rfl | rfl | rfl <;> decide
  have n9 : (9 : Nat) ≠ i := by rcases hi with rfl | rfl | rfl | rfl <;> decide
  have keep : ∀ k, L k = true → (k == i || L k) = true := fun k hk => by simp [hk]
  obtain ⟨G, g1, g2, g3, g4, g5, g6⟩ := h.ex
  refine ⟨hbel, fun q => by rw [e46]; exact h.p0 ((hor 0 n0).1 q), fun q => by rw [e48]; exact h.p2 ((hor 2 n2).1 q), fun q => by rw [e50]; exact h.p4 ((hor 4 n4).1 q), fun q => ?_, fun q => ?_, fun q => ?_, fun k => if k = i then W.heap.size else G k, ?_, ?_, ?_, ?_, ?_, ?_⟩
  · have q1 := h.p7 ((hor 7 n7).1 q)
    have hne : i ≠ 1 := by rintro rfl; rw [q1.2] at hL; cases hL
    exact ⟨by rw [e10, e47 hne]; exact q1.1, keep 1 q1.2⟩
  · have q1 := h.p9 ((hor 9 n9).1 q)
    have hne : i ≠ 5 := by rintro rfl; rw [q1.2] at hL; cases hL
    exact ⟨by rw [e12, e51 hne]; exact q1.1, keep 5 q1.2⟩
  · have q1 := h.p8 ((hor 8 n8).1 q)
    exact ⟨keep 6 q1.1, keep 3 q1.2⟩
  · intro a b ha hb' hLa hLb hab
    by_cases h1 : a = i
    · have h2 : b ≠ i := by omega
      have := g2 b hb' ((hor b h2).1 hLb)
      simp only [if_pos h1, if_neg h2]
      omega
    · by_cases h2 : b = i
      · have := g2 a ha ((hor a h1).1 hLa)
        simp only [if_neg h1, if_pos h2]
        omega
      · simp only [if_neg h1, if_neg h2]
        exact g1 a b ha hb' ((hor a h1).1 hLa) ((hor b h2).1 hLb) hab
  · intro a ha hLa
    by_cases h1 : a = i
    · simp only [if_pos h1]
      exact ⟨h.bel.size, hsz⟩
    · simp only [if_neg h1]
      have := g2 a ha ((hor a h1).1 hLa)
      omega
  · intro q
    by_cases h1 : 1 = i
    · simp only [if_pos h1]; exact f1 h1.symm
    · simp only [if_neg h1]; rw [e47 (Ne.symm h1)]; exact (g3 ((hor 1 h1).1 q)).below hb
  · intro q
    by_cases h1 : 3 = i
    · simp only [if_pos h1]; exact f3 h1.symm
    · simp only [if_neg h1]; rw [e49 (Ne.symm h1)]; exact (g4 ((hor 3 h1).1 q)).below hb
  · intro q
    by_cases h1 : 5 = i
    · simp only [if_pos h1]; exact f5 h1.symm
    · simp only [if_neg h1]; rw [e51 (Ne.symm h1)]; exact (g5 ((hor 5 h1).1 q)).below hb
  · intro q
    by_cases h1 : 6 = i
    · simp only [if_pos h1]
      have h8 : ¬ ((8 == i || L 8) = true) := fun q8 => by
        have := (h.p8 ((hor 8 n8).1 q8)).1
        rw [h1, hL] at this
        cases this
      rw [if_neg h8]
      exact f6 h1.symm
    · simp only [if_neg h1]
      have q1 := g6 ((hor 6 h1).1 q)
      rw [e11 (Ne.symm h1)]
      refine ⟨q1.1, (hb.block _ (blk_lt q1.2)).trans (q1.2.trans ?_)⟩
      by_cases h8 : L 8 = true
      · have h3 : i ≠ 3 := by rintro rfl; rw [(h.p8 h8).2] at hL; cases hL
        rw [if_pos h8, if_pos (keep 8 h8), e49 h3]
      · rw [if_neg h8, if_neg (fun q => h8 ((hor 8 n8).1 q))]

theorem infoI : (Tryd.prog.info? 3).map (fun i => (i.zero, i.size, i.bytes)) = some (some (.int .i64 0), 1, 8) := by kernel_rfl

set_option maxRecDepth 100000 in
set_option maxHeartbeats 600000 in
theorem split_walk (T : Int) (l : List Int) (A : Option Addr) (cp : Nat) (w : World) (hA : Kd.C (Kd.int .i64) w A l.length l) (hcp : l.length ≤ cp) (hok : okSplit T l = true) :
    Calls Tryd.prog 19 #[.int .i64 T, .slice A l.length cp] w fun e w' => ∃ v, e = .returned (.tuple #[v, .int .i64 0]) ∧ Kd.R (Kd.int .i64) 3 w' w.heap.size (fun _ => True) v (splitS T.toNat l) ∧ Below w.heap.size w w' := by
  simp only [okSplit, Bool.and_eq_true, decide_eq_true_eq, List.all_eq_true] at hok
  obtain ⟨⟨⟨⟨⟨⟨⟨hT0, hT1⟩, hall⟩, hS0⟩, hn0⟩, hn1⟩, hd0⟩, hd1⟩ := hok
  have HD := Lib.hid (And.intro hd0 hd1)
  clear hd0 hd1
  have HALL := Lib.hid hall
  have HA := Lib.hid hA
  obtain ⟨S, hS⟩ : ∃ S, sumI l = S := ⟨_, rfl⟩
  have hSle : S ≤ 20 * 1099511627776 := by
    have := sumI_le (B := 1099511627776) (by omega) (fun x hx => (hall x hx).1.2)
    rw [hS] at this
    have h2 : (l.length : Int) * 1099511627776 ≤ 20 * 1099511627776 := Int.mul_le_mul_of_nonneg_right (by omega) (by omega)
    omega
  rw [hS] at hS0
  have HS := Lib.hid hS
  clear hall hA hS
  go_enter Tryd.func19, Tryd.ntmps19
  go_wp2_with fail
  go_loop [6, 18] (fun s v => ∃ k : Nat, v = .int .i64 k ∧ k ≤ l.length ∧ s = .int .i64 (sumI (l.take k))) (fun _ v => l.length - (intOf v).toNat)
  case atStart => exact ⟨0, rfl, Nat.zero_le _, rfl⟩
  case round =>
    obtain ⟨k, rfl, hk, rfl⟩ := hrel
    have b0 : 0 ≤ sumI (l.take k) := sumI_nonneg (fun x hx => ((HALL.out x (List.mem_of_mem_take hx)).1.1))
    have b1 : sumI (l.take k) ≤ 20 * 1099511627776 := by
      have := sumI_le (B := 1099511627776) (by omega) (fun x hx => (HALL.out x (List.mem_of_mem_take (l := l) (i := k) hx)).1.2)
      have h2 : ((l.take k).length : Int) * 1099511627776 ≤ 20 * 1099511627776 := Int.mul_le_mul_of_nonneg_right (by rw [List.length_take]; omega) (by omega)
      omega
    by_cases hlt : k < l.length
    · obtain ⟨x, hx⟩ : ∃ x, l[k] = x := ⟨_, rfl⟩
      have hxb := HALL.out x (by rw [← hx]; exact List.getElem_mem hlt)
      obtain ⟨ad, rfl, hc⟩ := Kd.at_int HA.out (k : Int) (by omega) (by omega)
      have hrd : rd l (k : Int) = x := by unfold rd; rw [Int.toNat_natCast, List.getD_eq_getElem?_getD, List.getElem?_eq_getElem hlt]; exact hx
      rw [hrd, Int.toNat_natCast] at hc
      have hsn : sumI (l.take (k + 1)) = sumI (l.take k) + x := by rw [List.take_succ_eq_append_getElem hlt, sumI_snoc, hx]
      have HSN := Lib.hid hsn
      have hxa := hxb.1.1
      have hxc := hxb.1.2
      have ham : amtB x = true := by unfold amtB; rw [decide_eq_true hxa, decide_eq_true hxc]; rfl
      clear hrd hsn hxb hx
      obtain ⟨s, hs⟩ : ∃ s, sumI (l.take k) = s := ⟨_, rfl⟩
      rw [hs] at b0 b1 ⊢
      have HSS := Lib.hid hs
      clear hs
      have s1 : decide (1152921504606846976 < s) = false := decide_eq_false (by omega)
      go_wp2_with fail
      refine (share_amount x _).mono ?_
      rintro e w' ⟨rfl, rfl⟩
      rw [ham]
      go_wp2_with fail
      go_round
      case rel => exact ⟨k + 1, by go_num, by omega, by rw [HSN.out, HSS.out]⟩
      case measure => simp [intOf]; omega
    · obtain rfl : k = l.length := by omega
      rw [List.take_length, HS.out] at b0 b1 ⊢
      have hT : amtB T = true := by unfold amtB; rw [decide_eq_true hT0, decide_eq_true hT1]; rfl
      have s1 : ((S : Int) == 0) = false := by rw [beq_eq_false_iff_ne]; omega
      have s2 : decide (1152921504606846976 < S) = false := decide_eq_false (by omega)
      go_wp2_with fail
      refine (share_amount T _).mono ?_
      rintro e w' ⟨rfl, rfl⟩
      rw [hT]
      go_upto_region 12 with fail
      go_cut [10, 11, 12] (fun s10 s11 s12 wx => ∃ go co gr cr gi ci gb, s10 = .slice (some ⟨go, 0, none⟩) l.length co ∧ s11 = .pointer (some ⟨gb, 0, none⟩) ∧ s12 = .slice (some ⟨gi, 0, none⟩) l.length ci ∧
        Hid (Kd.R (Kd.int .i64) 3 wx w'.heap.size (· = go) (.slice (some ⟨go, 0, none⟩) l.length co) (List.replicate l.length 0) ∧ Ints wx gr (List.replicate l.length 0) ∧ Ints wx gi (List.replicate l.length 0) ∧ wx.heap[gb]? = some (.cells #[.slice (some ⟨gr, 0, none⟩) l.length cr] 22 (0, 0)) ∧ Below w'.heap.size w' wx ∧
          go ≠ gr ∧ go ≠ gi ∧ gr ≠ gi ∧ gb ≠ go ∧ gb ≠ gr ∧ gb ≠ gi ∧ w'.heap.size ≤ gr ∧ w'.heap.size ≤ gi ∧ w'.heap.size ≤ gb))
      case first =>
        refine act_gen (fun a0 ha0 => ?_)
        have h9 : a0.eval (.tmp 9) = .int .i64 l.length := by rw [ha0]; rfl
        have hsz : a0.tmps.size = 103 := by rw [ha0]; rfl
        have HA0 := Lib.hid ha0
        clear ha0
        refine region_inv_s (by kernel_rfl) (by kernel_rfl) [10, 11, 12, 46, 47, 48, 49, 50, 51] (RS w' l.length) ?_ ?_ ?_
        · exact fun s => RS.start _ _ _
        · intro L s W i o ho hR hli hdeps
          have hi10 : i < 10 := by
            have := (Array.getElem?_eq_some_iff.1 ho).1
            simpa using this
          rcases i with _ | _ | _ | _ | _ | _ | _ | _ | _ | _ | i
          · obtain rfl := (Option.some.inj ho)
            refine wpOp_move rfl rfl (x := .tmp 9) (.inl rfl) ?_
            exact ⟨updS s 46 _, frmS_put a0 s 46 _ _ (by decide) (by decide), hR.moved (i := 0) (by omega) (upd_other _ _ (by decide)) (upd_other _ _ (by decide)) (upd_other _ _ (by decide)) (upd_other _ _ (by decide)) (fun h => absurd rfl h) (fun _ => upd_other _ _ (by decide)) (fun _ => upd_other _ _ (by decide)) (fun _ => upd_other _ _ (by decide)) (fun _ => upd_other _ _ (by decide)) (fun _ => (upd_same _ _ _).trans ((frmS_other a0 s 9 _ (by decide)).trans h9)) (fun h => absurd h (by decide)) (fun h => absurd h (by decide)) (fun h => absurd h (by decide)) (fun h => absurd h (by decide))⟩
          · obtain rfl := (Option.some.inj ho)
            have d := hdeps { on := 0, ground := .data } (by simp) rfl
            refine wpOp_one rfl (fun Q' hK => ?_)
            have hn : (frmS a0 [10, 11, 12, 46, 47, 48, 49, 50, 51] s).eval (.tmp 46) = .int .i64 l.length := by rw [frmS_eval a0 s 46 (by omega) _ (by decide)]; exact hR.p0 d
            refine Kd.R_make (Kd.int .i64) w'.heap.size 3 rfl (N := 47) rfl 22 _ _ rfl (l.length : Int) hn hn Tryd.underlying22 (.int .i64 0) 8 infoI rfl (by decide) (by omega) 0 (ok := fun k => k = W.heap.size) (okp := fun _ => False) rfl (fun _ hk => hk.elim) rfl (by omega) (by omega) hR.bel hR.bel.size ?_
            intro v1 w1 ho1 hb1 hg1 hat
            rw [Int.toNat_natCast] at ho1
            obtain ⟨b, hb2, hb3⟩ := hat
            have hbe : b = W.heap.size := ho1.1 b hb2
            subst hbe
            have hlt1 := Kd.R_lt ho1 _ hb2
            refine hK _ _ ⟨updS s 47 v1, frmS_put a0 s 47 v1 _ (by decide) (by decide), hR.fresh (i := 1) (by unfold mk4; omega) hli ⟨hg1.os, hg1.tape, hg1.output, hg1.size, fun i hi => hg1.block i hi (by simp)⟩ hlt1 (upd_other _ _ (by decide)) (upd_other _ _ (by decide)) (upd_other _ _ (by decide)) (upd_other _ _ (by decide)) (upd_other _ _ (by decide)) (fun h => absurd rfl h) (fun _ => upd_other _ _ (by decide)) (fun _ => upd_other _ _ (by decide)) (fun _ => upd_other _ _ (by decide)) ?_ ?_ ?_ ?_⟩
            all_goals first | (intro h; exact absurd h (by decide)) | (intro _; rw [upd_same]; exact ⟨hb2, ho1⟩)
          · obtain rfl := (Option.some.inj ho)
            refine wpOp_move rfl rfl (x := .tmp 9) (.inl rfl) ?_
            exact ⟨updS s 48 _, frmS_put a0 s 48 _ _ (by decide) (by decide), hR.moved (i := 2) (by omega) (upd_other _ _ (by decide)) (upd_other _ _ (by decide)) (upd_other _ _ (by decide)) (upd_other _ _ (by decide)) (fun _ => upd_other _ _ (by decide)) (fun h => absurd rfl h) (fun _ => upd_other _ _ (by decide)) (fun _ => upd_other _ _ (by decide)) (fun _ => upd_other _ _ (by decide)) (fun h => absurd h (by decide)) (fun _ => (upd_same _ _ _).trans ((frmS_other a0 s 9 _ (by decide)).trans h9)) (fun h => absurd h (by decide)) (fun h => absurd h (by decide)) (fun h => absurd h (by decide))⟩
          · obtain rfl := (Option.some.inj ho)
            have d := hdeps { on := 2, ground := .data } (by simp) rfl
            refine wpOp_one rfl (fun Q' hK => ?_)
            have hn : (frmS a0 [10, 11, 12, 46, 47, 48, 49, 50, 51] s).eval (.tmp 48) = .int .i64 l.length := by rw [frmS_eval a0 s 48 (by omega) _ (by decide)]; exact hR.p2 d
            refine Kd.R_make (Kd.int .i64) w'.heap.size 3 rfl (N := 49) rfl 22 _ _ rfl (l.length : Int) hn hn Tryd.underlying22 (.int .i64 0) 8 infoI rfl (by decide) (by omega) 0 (ok := fun k => k = W.heap.size) (okp := fun _ => False) rfl (fun _ hk => hk.elim) rfl (by omega) (by omega) hR.bel hR.bel.size ?_
            intro v1 w1 ho1 hb1 hg1 hat
            rw [Int.toNat_natCast] at ho1
            obtain ⟨b, hb2, hb3⟩ := hat
            have hbe : b = W.heap.size := ho1.1 b hb2
            subst hbe
            have hlt1 := Kd.R_lt ho1 _ hb2
            refine hK _ _ ⟨updS s 49 v1, frmS_put a0 s 49 v1 _ (by decide) (by decide), hR.fresh (i := 3) (by unfold mk4; omega) hli ⟨hg1.os, hg1.tape, hg1.output, hg1.size, fun i hi => hg1.block i hi (by simp)⟩ hlt1 (upd_other _ _ (by decide)) (upd_other _ _ (by decide)) (upd_other _ _ (by decide)) (upd_other _ _ (by decide)) (upd_other _ _ (by decide)) (fun _ => upd_other _ _ (by decide)) (fun h => absurd rfl h) (fun _ => upd_other _ _ (by decide)) (fun _ => upd_other _ _ (by decide)) ?_ ?_ ?_ ?_⟩
            all_goals first | (intro h; exact absurd h (by decide)) | (intro _; rw [upd_same]; exact ⟨hb2, ho1⟩)
          · obtain rfl := (Option.some.inj ho)
            refine wpOp_move rfl rfl (x := .tmp 9) (.inl rfl) ?_
            exact ⟨updS s 50 _, frmS_put a0 s 50 _ _ (by decide) (by decide), hR.moved (i := 4) (by omega) (upd_other _ _ (by decide)) (upd_other _ _ (by decide)) (upd_other _ _ (by decide)) (upd_other _ _ (by decide)) (fun _ => upd_other _ _ (by decide)) (fun _ => upd_other _ _ (by decide)) (fun h => absurd rfl h) (fun _ => upd_other _ _ (by decide)) (fun _ => upd_other _ _ (by decide)) (fun h => absurd h (by decide)) (fun h => absurd h (by decide)) (fun _ => (upd_same _ _ _).trans ((frmS_other a0 s 9 _ (by decide)).trans h9)) (fun h => absurd h (by decide)) (fun h => absurd h (by decide))⟩
          · obtain rfl := (Option.some.inj ho)
            have d := hdeps { on := 4, ground := .data } (by simp) rfl
            refine wpOp_one rfl (fun Q' hK => ?_)
            have hn : (frmS a0 [10, 11, 12, 46, 47, 48, 49, 50, 51] s).eval (.tmp 50) = .int .i64 l.length := by rw [frmS_eval a0 s 50 (by omega) _ (by decide)]; exact hR.p4 d
            refine Kd.R_make (Kd.int .i64) w'.heap.size 3 rfl (N := 51) rfl 22 _ _ rfl (l.length : Int) hn hn Tryd.underlying22 (.int .i64 0) 8 infoI rfl (by decide) (by omega) 0 (ok := fun k => k = W.heap.size) (okp := fun _ => False) rfl (fun _ hk => hk.elim) rfl (by omega) (by omega) hR.bel hR.bel.size ?_
            intro v1 w1 ho1 hb1 hg1 hat
            rw [Int.toNat_natCast] at ho1
            obtain ⟨b, hb2, hb3⟩ := hat
            have hbe : b = W.heap.size := ho1.1 b hb2
            subst hbe
            have hlt1 := Kd.R_lt ho1 _ hb2
            refine hK _ _ ⟨updS s 51 v1, frmS_put a0 s 51 v1 _ (by decide) (by decide), hR.fresh (i := 5) (by unfold mk4; omega) hli ⟨hg1.os, hg1.tape, hg1.output, hg1.size, fun i hi => hg1.block i hi (by simp)⟩ hlt1 (upd_other _ _ (by decide)) (upd_other _ _ (by decide)) (upd_other _ _ (by decide)) (upd_other _ _ (by decide)) (upd_other _ _ (by decide)) (fun _ => upd_other _ _ (by decide)) (fun _ => upd_other _ _ (by decide)) (fun h => absurd rfl h) (fun _ => upd_other _ _ (by decide)) ?_ ?_ ?_ ?_⟩
            all_goals first | (intro h; exact absurd h (by decide)) | (intro _; rw [upd_same]; exact ⟨hb2, ho1⟩)
          · obtain rfl := (Option.some.inj ho)
            refine wpOp_run rfl rfl (v := .pointer (some ⟨W.heap.size, 0, none⟩)) (w' := W.alloc (.cells #[.slice none 0 0] 22)) (by kernel_rfl) ?_
            refine ⟨updS s 11 (.pointer (some ⟨W.heap.size, 0, none⟩)), frmS_put a0 s 11 (.pointer (some ⟨W.heap.size, 0, none⟩)) _ (by decide) (by decide), hR.fresh (i := 6) (by unfold mk4; omega) hli (below_alloc (Below.refl _ _) _) (by simp) (upd_other _ _ (by decide)) (upd_other _ _ (by decide)) (upd_other _ _ (by decide)) (upd_other _ _ (by decide)) (upd_other _ _ (by decide)) (fun _ => upd_other _ _ (by decide)) (fun _ => upd_other _ _ (by decide)) (fun _ => upd_other _ _ (by decide)) (fun h => absurd rfl h) ?_ ?_ ?_ ?_⟩
            all_goals first | (intro h; exact absurd h (by decide)) | (intro _; exact ⟨upd_same _ _ _, blk_new _ _⟩)
          · obtain rfl := (Option.some.inj ho)
            have dd : L 1 = true := hdeps { on := 1, ground := .data } (by simp) rfl
            have vv : (frmS a0 [10, 11, 12, 46, 47, 48, 49, 50, 51] s).eval (.tmp 47) = s 47 := frmS_eval a0 s 47 (by omega) _ (by decide)
            refine wpOp_move rfl rfl (x := .tmp 47) (.inr rfl) ?_
            generalize (frmS a0 [10, 11, 12, 46, 47, 48, 49, 50, 51] s).eval (.tmp 47) = vx at vv ⊢
            refine ⟨updS s 10 vx, frmS_put a0 s 10 vx _ (by decide) (by decide), ?_⟩
            exact hR.moved (i := 7) (by omega) (upd_other _ _ (by decide)) (upd_other _ _ (by decide)) (upd_other _ _ (by decide)) (upd_other _ _ (by decide)) (fun _ => upd_other _ _ (by decide)) (fun _ => upd_other _ _ (by decide)) (fun _ => upd_other _ _ (by decide)) (fun h => absurd rfl h) (fun _ => upd_other _ _ (by decide)) (fun h => absurd h (by decide)) (fun h => absurd h (by decide)) (fun h => absurd h (by decide)) (fun _ => ⟨(upd_same _ _ _).trans vv, dd⟩) (fun h => absurd h (by decide))
          · obtain rfl := (Option.some.inj ho)
            have d6 := hdeps { on := 6, ground := .data } (by simp) rfl
            have d3 := hdeps { on := 3, ground := .data } (by simp) rfl
            obtain ⟨G, _, _, _, g4, _, g6⟩ := hR.ex
            obtain ⟨A9, c9, e49⟩ := Kd.R_slice (g4 d3).2
            rw [List.length_replicate] at e49
            obtain ⟨e11, c6⟩ := g6 d6
            have x11' : (frmS a0 [10, 11, 12, 46, 47, 48, 49, 50, 51] s).eval (.tmp 11) = .pointer (some ⟨G 6, 0, none⟩) := (frmS_eval a0 s 11 (by omega) _ (by decide)).trans e11
            have x49' : (frmS a0 [10, 11, 12, 46, 47, 48, 49, 50, 51] s).eval (.tmp 49) = s 49 := frmS_eval a0 s 49 (by omega) _ (by decide)
            have h8 := hR.stored d6 d3 e11
            rw [e49] at h8
            have HS8 := Lib.hid h8
            clear h8
            obtain ⟨aa, haa⟩ : ∃ aa, frmS a0 [10, 11, 12, 46, 47, 48, 49, 50, 51] s = aa := ⟨_, rfl⟩
            rw [haa] at x11' x49' ⊢
            have HAA := Lib.hid haa
            clear haa
            have x49'' : aa.eval (.tmp 49) = .slice A9 l.length c9 := x49'.trans e49
            have x11 : aa.tmps.getD 11 undef = .pointer (some ⟨G 6, 0, none⟩) := x11'
            have x49 : aa.tmps.getD 49 undef = .slice A9 l.length c9 := x49'.trans e49
            have y0 := blk_cell c6 0
            have y1 := blk_frozen c6 0
            simp only [List.getElem?_toArray, List.getElem?_cons_zero] at y0
            refine wpOp_one rfl (fun Q' hK => ?_)
            have HK := Lib.hid hK
            clear hdeps hR g6 c6 hK g4 x49' e49
            go_wp2_with fail
            exact HK.out _ _ ⟨s, HAA.out.symm, HS8.out⟩
          · obtain rfl := (Option.some.inj ho)
            have dd : L 5 = true := hdeps { on := 5, ground := .data } (by simp) rfl
            have vv : (frmS a0 [10, 11, 12, 46, 47, 48, 49, 50, 51] s).eval (.tmp 51) = s 51 := frmS_eval a0 s 51 (by omega) _ (by decide)
            refine wpOp_move rfl rfl (x := .tmp 51) (.inr rfl) ?_
            generalize (frmS a0 [10, 11, 12, 46, 47, 48, 49, 50, 51] s).eval (.tmp 51) = vx at vv ⊢
            refine ⟨updS s 12 vx, frmS_put a0 s 12 vx _ (by decide) (by decide), ?_⟩
            exact hR.moved (i := 9) (by omega) (upd_other _ _ (by decide)) (upd_other _ _ (by decide)) (upd_other _ _ (by decide)) (upd_other _ _ (by decide)) (fun _ => upd_other _ _ (by decide)) (fun _ => upd_other _ _ (by decide)) (fun _ => upd_other _ _ (by decide)) (fun _ => upd_other _ _ (by decide)) (fun h => absurd rfl h) (fun h => absurd h (by decide)) (fun h => absurd h (by decide)) (fun h => absurd h (by decide)) (fun h => absurd h (by decide)) (fun _ => ⟨(upd_same _ _ _).trans vv, dd⟩)
          · omega
        · intro L s W hR hall
          have A1 := hall 1 (by decide)
          have A3 := hall 3 (by decide)
          have A5 := hall 5 (by decide)
          have A6 := hall 6 (by decide)
          have A8 := hall 8 (by decide)
          obtain ⟨G, g1, g2, g3, g4, g5, g6⟩ := hR.ex
          obtain ⟨e11, c6⟩ := g6 A6
          rw [if_pos A8] at c6
          have m1 := g3 A1
          have m3 := g4 A3
          have m5 := g5 A5
          obtain ⟨go, co, v1, b1', l1', i1⟩ := Ints_of_R m1.2 (by simpa using hn0)
          obtain ⟨gr, cr, v3, b3', l3', i3⟩ := Ints_of_R m3.2 (by simpa using hn0)
          obtain ⟨gi, ci, v5, b5', l5', i5⟩ := Ints_of_R m5.2 (by simpa using hn0)
          rw [List.length_replicate] at v1 v3 v5
          have q1 : go = G 1 := by have := m1.1; rw [v1] at this; injection this
          have q3 : gr = G 3 := by have := m3.1; rw [v3] at this; injection this
          have q5 : gi = G 5 := by have := m5.1; rw [v5] at this; injection this
          subst q1 q3 q5
          have R1 := m1.2
          rw [v1] at R1
          have e10 : s 10 = s 47 := (hR.p7 (hall 7 (by decide))).1
          have e12 : s 12 = s 51 := (hR.p9 (hall 9 (by decide))).1
          rw [v3] at c6
          have k : ∀ i j, mk4 i → mk4 j → i ≠ j → G i ≠ G j := fun i j hi hj hij => g1 i j hi hj (hall i (by unfold mk4 at hi; simp; omega)) (hall j (by unfold mk4 at hj; simp; omega)) hij
          have HE : Hid (s 10 = .slice (some ⟨G 1, 0, none⟩) l.length co ∧ s 11 = .pointer (some ⟨G 6, 0, none⟩) ∧ s 12 = .slice (some ⟨G 5, 0, none⟩) l.length ci) := Lib.hid ⟨e10.trans v1, e11, e12.trans v5⟩
          have HF := Lib.hid (And.intro R1 (And.intro i3 (And.intro i5 (And.intro c6 (And.intro hR.bel (And.intro (k 1 3 (by unfold mk4; omega) (by unfold mk4; omega) (by decide)) (And.intro (k 1 5 (by unfold mk4; omega) (by unfold mk4; omega) (by decide)) (And.intro (k 3 5 (by unfold mk4; omega) (by unfold mk4; omega) (by decide)) (And.intro (k 6 1 (by unfold mk4; omega) (by unfold mk4; omega) (by decide)) (And.intro (k 6 3 (by unfold mk4; omega) (by unfold mk4; omega) (by decide)) (And.intro (k 6 5 (by unfold mk4; omega) (by unfold mk4; omega) (by decide)) (And.intro b3' (And.intro b5' (g2 6 (by unfold mk4; omega) A6).1)))))))))))))
          clear hall g1 g2 g3 g4 g5 g6 e11 c6 m1 m3 m5 i1 i3 i5 R1 e10 e12 k hR
          rw [HA0.out]
          simp only [frmS, Act.put, List.setIfInBounds_toArray, List.set_cons_zero, List.set_cons_succ]
          go_wp2_with fail
          go_meet
          exact ⟨G 1, co, G 3, cr, G 5, ci, G 6, HE.out.1, HE.out.2.1, HE.out.2.2, HF⟩
      case rest =>
        obtain ⟨go, co, gr, cr, gi, ci, gb, rfl, rfl, rfl, HC⟩ := hcut
        obtain ⟨tn, rfl⟩ := Int.eq_ofNat_of_zero_le hT0
        obtain ⟨sn, rfl⟩ := Int.eq_ofNat_of_zero_le b0
        clear s1 s2 hT b1 hlt hk
        have hql : (quo tn sn l).length = l.length := List.length_map ..
        have hrl : (rem tn sn l).length = l.length := List.length_map ..
        have hil : (idxs l.length).length = l.length := by simp [idxs]
        have HQL := Lib.hid (And.intro hql (And.intro hrl hil))
        clear hql hrl hil
        go_wp2_with fail
        go_loopw [54, 13] (fun v d wr => ∃ k : Nat, v = .int .i64 k ∧ k ≤ l.length ∧ d = .int .i64 (tn - sumI ((quo tn sn l).take k)) ∧
          Hid (Kd.R (Kd.int .i64) 3 wr w'.heap.size (· = go) (.slice (some ⟨go, 0, none⟩) l.length co) ((quo tn sn l).take k ++ List.replicate (l.length - k) 0) ∧ Ints wr gr ((rem tn sn l).take k ++ List.replicate (l.length - k) 0) ∧ Ints wr gi ((idxs l.length).take k ++ List.replicate (l.length - k) 0) ∧ wr.heap[gb]? = some (.cells #[.slice (some ⟨gr, 0, none⟩) l.length cr] 22 (0, 0)) ∧ Below w'.heap.size w' wr))
          (fun v _ _ => l.length - (intOf v).toNat)
        case atStart => exact ⟨0, rfl, Nat.zero_le _, by simp [sumI], Lib.hid ⟨HC.out.1, HC.out.2.1, HC.out.2.2.1, HC.out.2.2.2.1, HC.out.2.2.2.2.1⟩⟩
        case round =>
          obtain ⟨k, rfl, hk, rfl, HK⟩ := hrel
          by_cases hkl : k < l.length
          · obtain ⟨hRo, hIr, hIi, hbx, hbe⟩ := HK.out
            obtain ⟨_, _, _, _, _, d1, d2, d3, d4, d5, d6, z1, z2, z3⟩ := HC.out
            obtain ⟨x, hx⟩ : ∃ x, l[k] = x := ⟨_, rfl⟩
            have hxb := HALL.out x (by rw [← hx]; exact List.getElem_mem hkl)
            obtain ⟨xn, rfl⟩ := Int.eq_ofNat_of_zero_le hxb.1.1
            have hprod : tn * xn < 18446744073709551616 := by have := hxb.2; simpa using this
            obtain ⟨ad, e, hc⟩ := Kd.at_int HA.out (k : Int) (by omega) (by omega)
            subst e
            have hrd : rd l (k : Int) = (xn : Int) := by unfold rd; rw [Int.toNat_natCast, List.getD_eq_getElem?_getD, List.getElem?_eq_getElem hkl]; exact hx
            rw [hrd, Int.toNat_natCast] at hc
            have cw := pw_cell_below hbe hc
            have cb := blk_cell hbx 0
            simp only [List.getElem?_toArray, List.getElem?_cons_zero] at cb
            have hxs : (xn : Int) ≤ (sn : Int) := by
              have := sumI_mem (fun z hz => (HALL.out z hz).1.1) (show (xn : Int) ∈ l by rw [← hx]; exact List.getElem_mem hkl)
              rwa [HS.out] at this
            have hq : tn * xn / sn ≤ tn := Nat.div_le_of_le_mul (by rw [Nat.mul_comm sn tn]; exact Nat.mul_le_mul_left tn (by omega))
            have hx40 := hxb.1.2
            have DV : ∀ W, Calls Tryd.prog 22 #[.int .i64 tn, .int .i64 xn, .int .i64 sn] W fun e w' => (∃ m : Bool, e = .returned (.tuple #[.int .i64 (tn * xn / sn : Nat), .int .i64 (tn * xn % sn : Nat), .bool m])) ∧ ∃ n, w' = W.drewN n := fun W => share_divide tn xn sn W hprod (by omega) (by omega) (by omega) (by omega) (by omega)
            obtain ⟨qk, hqk⟩ : ∃ qk, tn * xn / sn = qk := ⟨_, rfl⟩
            obtain ⟨rk, hrk⟩ : ∃ rk, tn * xn % sn = rk := ⟨_, rfl⟩
            rw [hqk, hrk] at DV
            rw [hqk] at hq
            have HQK := Lib.hid hqk
            have HRK := Lib.hid hrk
            have HX := Lib.hid hx
            obtain ⟨cg, fg⟩ := Kd.R_celln (0 : Int) hRo (k : Int) (by omega) (by simp; omega)
            rw [Int.toNat_natCast] at cg fg
            generalize rdOf (0 : Int) _ (k : Int) = og at cg
            have cr1 := hIr.cell k (by rw [List.length_append, List.length_take, List.length_replicate, HQL.out.2.1]; omega)
            have fr1 := hIr.frozen k
            generalize List.getD _ k (0 : Int) = orr at cr1
            have ci1 := hIi.cell k (by rw [List.length_append, List.length_take, List.length_replicate, HQL.out.2.2]; omega)
            have fi1 := hIi.frozen k
            generalize List.getD _ k (0 : Int) = oi at ci1
            have HBX := Lib.hid hbx
            clear hqk hrk hx hrd hc hbx hxb hprod
            go_upto_region 17 with fail
            go_cut [] (fun wx => ∃ n, wx = ((wr.drewN n).setCell ⟨go, k, none⟩ (.int .i64 (qk : Int))).setCell ⟨gr, k, none⟩ (.int .i64 (rk : Int)))
            case first =>
              go_region_with (go_at_call 22; refine (DV _).mono ?_; rintro e w9 ⟨⟨m, rfl⟩, nd, rfl⟩)
              all_goals (go_wp2_with fail; go_meet; exact ⟨_, rfl⟩)
            case rest =>
              obtain ⟨nd, rfl⟩ := hcut
              have hQl : k < (quo tn sn l).length := by rw [HQL.out.1]; exact hkl
              have hRl : k < (rem tn sn l).length := by rw [HQL.out.2.1]; exact hkl
              have hIl : k < (idxs l.length).length := by rw [HQL.out.2.2]; exact hkl
              have hQk : (quo tn sn l)[k] = (qk : Int) := by
                rw [quo_get _ _ _ _ _ hkl, HX.out, Int.toNat_natCast, HQK.out]
              have hRk : (rem tn sn l)[k] = (rk : Int) := by
                rw [rem_get _ _ _ _ _ hkl, HX.out, Int.toNat_natCast, HRK.out]
              have hIk : (idxs l.length)[k] = (k : Int) := by simp [idxs]
              have o1 := Kd.R_far (p := ⟨gr, k, none⟩) (Kd.R_putn (Kd.R_drewN hRo nd) (k : Int) (qk : Int)) (fun j hj => by rw [hj]; exact d1) (.int .i64 (rk : Int))
              rw [Int.toNat_natCast] at o1
              have r1 := ((hIr.drewN nd).far (p := ⟨go, k, none⟩) (fun e => d1 e.symm) (.int .i64 (qk : Int))).set k (by rw [List.length_append, List.length_take, List.length_replicate, HQL.out.2.1]; omega) (rk : Int)
              have i1 := ((hIi.drewN nd).far (p := ⟨go, k, none⟩) (fun e => d2 e.symm) (.int .i64 (qk : Int))).far (p := ⟨gr, k, none⟩) (fun e => d3 e.symm) (.int .i64 (rk : Int))
              have b1 : (((wr.drewN nd).setCell ⟨go, k, none⟩ (.int .i64 (qk : Int))).setCell ⟨gr, k, none⟩ (.int .i64 (rk : Int))).heap[gb]? = some (.cells #[.slice (some ⟨gr, 0, none⟩) l.length cr] 22 (0, 0)) := blk_far (blk_far (blk_drewN HBX.out nd) d4 _) d5 _
              have e1 : Below w'.heap.size w' (((wr.drewN nd).setCell ⟨go, k, none⟩ (.int .i64 (qk : Int))).setCell ⟨gr, k, none⟩ (.int .i64 (rk : Int))) := ((pw_below_drewN hbe nd).setCell (p := ⟨go, k, none⟩) (by have := Kd.R_base hRo go rfl; exact this) _).setCell (p := ⟨gr, k, none⟩) z1 _
              obtain ⟨W3, hW3⟩ : ∃ W3, ((wr.drewN nd).setCell ⟨go, k, none⟩ (.int .i64 (qk : Int))).setCell ⟨gr, k, none⟩ (.int .i64 (rk : Int)) = W3 := ⟨_, rfl⟩
              rw [hW3] at o1 r1 i1 b1 e1 ⊢
              have fo := fill_step _ k _ hQl hQk
              have fr := fill_step _ k _ hRl hRk
              have fi := fill_step _ k _ hIl hIk
              rw [HQL.out.1] at fo
              rw [HQL.out.2.1] at fr
              rw [HQL.out.2.2] at fi
              rw [fo] at o1
              rw [fr] at r1
              clear hW3 hRo hIr hIi cw cb cg fg cr1 fr1 ci1 fi1 hbe DV fo fr hRl hRk hIl hIk
              have x1 := i1.cell k (by rw [List.length_append, List.length_take, List.length_replicate, HQL.out.2.2]; omega)
              have x2 := i1.frozen k
              generalize List.getD _ k (0 : Int) = oi' at x1
              obtain ⟨x3, _⟩ := Kd.R_celln (0 : Int) o1 (k : Int) (by omega) (by omega)
              have e3 : rdOf (0 : Int) ((quo tn sn l).take (k + 1) ++ List.replicate (l.length - (k + 1)) 0) (k : Int) = (qk : Int) := by
                unfold rdOf
                rw [Int.toNat_natCast, List.take_succ_eq_append_getElem hQl, hQk, List.append_assoc]
                exact getD_app _ _ _ _ (by rw [List.length_take]; omega)
              rw [e3, Int.toNat_natCast] at x3
              have i2 := i1.set k (by rw [List.length_append, List.length_take, List.length_replicate, HQL.out.2.2]; omega) (k : Int)
              rw [fi] at i2
              have o2 := Kd.R_far (p := ⟨gi, k, none⟩) o1 (fun j hj => by rw [hj]; exact d2) (.int .i64 (k : Int))
              have r2 := r1.far (p := ⟨gi, k, none⟩) d3 (.int .i64 (k : Int))
              have b2 := blk_far (p := ⟨gi, k, none⟩) b1 d6 (.int .i64 (k : Int))
              have e2 := e1.setCell (p := ⟨gi, k, none⟩) z2 (.int .i64 (k : Int))
              have HN := Lib.hid (And.intro o2 (And.intro r2 (And.intro i2 (And.intro b2 e2))))
              have hs0 : 0 ≤ sumI ((quo tn sn l).take k) := sumI_nonneg (fun z hz => by
                obtain ⟨y, _, rfl⟩ := List.mem_map.1 (List.mem_of_mem_take hz)
                exact Int.natCast_nonneg _)
              have hs1 : sumI ((quo tn sn l).take k) ≤ 20 * 1099511627776 := by
                have := sumI_le (l := (quo tn sn l).take k) (B := 1099511627776) (by omega) (fun z hz => by
                  obtain ⟨y, hy, rfl⟩ := List.mem_map.1 (List.mem_of_mem_take hz)
                  have h1 := sumI_mem (fun z hz => (HALL.out z hz).1.1) hy
                  rw [HS.out] at h1
                  have h2 : tn * y.toNat / sn ≤ tn := Nat.div_le_of_le_mul (by rw [Nat.mul_comm sn tn]; exact Nat.mul_le_mul_left tn (by omega))
                  refine Int.le_trans ?_ hT1
                  exact Int.ofNat_le.2 h2)
                have h2 : (((quo tn sn l).take k).length : Int) * 1099511627776 ≤ 20 * 1099511627776 := Int.mul_le_mul_of_nonneg_right (by rw [List.length_take]; omega) (by omega)
                omega
              have hsn : sumI ((quo tn sn l).take (k + 1)) = sumI ((quo tn sn l).take k) + qk := by rw [List.take_succ_eq_append_getElem hQl, sumI_snoc, hQk]
              have HSN := Lib.hid hsn
              obtain ⟨sk, hsk⟩ : ∃ sk, sumI ((quo tn sn l).take k) = sk := ⟨_, rfl⟩
              rw [hsk] at hs0 hs1 ⊢
              have HSK := Lib.hid hsk
              clear hsn hsk o2 r2 i2 b2 e2 o1 r1 i1 b1 e1 e3 fi hQk hQl
              trace_state
              go_wp2_with fail
              go_roundw
              case rel => exact ⟨k + 1, by go_num, by omega, by rw [HSN.out, HSK.out]; go_num, HN⟩
              case measure => simp [intOf]; omega
          · obtain rfl : k = l.length := by omega
            obtain ⟨hRo, hIr, hIi, hbx, hbe⟩ := HK.out
            obtain ⟨_, _, _, _, _, d1, d2, d3, d4, d5, d6, z1, z2, z3⟩ := HC.out
            have hfull : ∀ F : List Int, F.length = l.length → F.take l.length ++ List.replicate (l.length - l.length) 0 = F := by
              intro F hF
              rw [← hF, List.take_length]
              simp
            rw [hfull _ HQL.out.1] at hRo
            rw [hfull _ HQL.out.2.1] at hIr
            rw [hfull _ HQL.out.2.2] at hIi
            have hql : (quo tn sn l).take l.length = quo tn sn l := by rw [← HQL.out.1, List.take_length]
            rw [hql]
            have hST := stable_sort gi gb gr cr ci (rem tn sn l) (idxs l.length) wr (by rw [HQL.out.2.1]; exact hbx) hIr hIi (by rw [HQL.out.2.2]; exact hn0) (by rw [HQL.out.2.2]; exact hn1) (by rw [HQL.out.2.1]; omega)
              (fun z hz => by
                obtain ⟨y, hy, rfl⟩ := List.mem_map.1 hz
                rw [HQL.out.2.1]
                exact ⟨Int.natCast_nonneg _, by rw [Int.toNat_natCast]; exact List.mem_range.1 hy⟩)
              (fun z hz => by
                obtain ⟨y, hy, rfl⟩ := List.mem_map.1 hz
                have : tn * y.toNat % sn < sn := Nat.mod_lt _ (by omega)
                generalize tn * y.toNat % sn = q at this ⊢
                omega) d6 d3
            rw [HQL.out.2.2] at hST
            have hDD := HD.out
            rw [Int.toNat_natCast, HS.out, Int.toNat_natCast] at hDD
            obtain ⟨Ord, hOrd⟩ : ∃ Ord, sortS (rem tn sn l) (idxs l.length) = Ord := ⟨_, rfl⟩
            have hOl : Ord.length = l.length := by
              rw [← hOrd]; unfold sortS
              rw [List.length_reverse, srtR_len, HQL.out.2.2]
              simp
            have hOm : ∀ z ∈ Ord, 0 ≤ z ∧ z < (l.length : Int) := by
              intro z hz
              rw [← hOrd] at hz
              unfold sortS at hz
              rcases srtR_mem _ z _ _ (List.mem_reverse.1 hz) with h | h
              · cases h
              · obtain ⟨y, hy, rfl⟩ := List.mem_map.1 h
                have := List.mem_range.1 hy
                omega
            rw [hOrd] at hST
            have hQb : ∀ z ∈ quo tn sn l, 0 ≤ z ∧ z ≤ 1099511627776 := by
              intro z hz
              obtain ⟨y, hy, rfl⟩ := List.mem_map.1 hz
              have h1 := sumI_mem (fun z hz => (HALL.out z hz).1.1) hy
              rw [HS.out] at h1
              have h2 : tn * y.toNat / sn ≤ tn := Nat.div_le_of_le_mul (by rw [Nat.mul_comm sn tn]; exact Nat.mul_le_mul_left tn (by omega))
              exact ⟨Int.natCast_nonneg _, Int.le_trans (Int.ofNat_le.2 h2) hT1⟩
            have hval : splitS tn l = bump (quo tn sn l) (Ord.take (tn - (sumI (quo tn sn l)).toNat)) := by
              unfold splitS
              simp only []
              rw [HS.out, Int.toNat_natCast, hOrd]
            have hs0 : 0 ≤ sumI (quo tn sn l) := sumI_nonneg (fun z hz => (hQb z hz).1)
            obtain ⟨dn, hdn⟩ : ∃ dn, tn - (sumI (quo tn sn l)).toNat = dn := ⟨_, rfl⟩
            have hdI : (tn : Int) - sumI (quo tn sn l) = (dn : Int) := by omega
            rw [hdn] at hval
            rw [hdI]
            have hdl : dn ≤ l.length := by omega
            have HST := Lib.hid hST
            have HVAL := Lib.hid hval
            have HOL := Lib.hid hOl
            have HOM := Lib.hid hOm
            have HQB := Lib.hid hQb
            have HRo := Lib.hid hRo
            have HBE := Lib.hid hbe
            clear hfull hIr hIi hbx hST hDD hval hOl hOm hQb hRo hbe hql hs0 hdn hdI hOrd
            go_wp2_with fail
            refine HST.out.mono ?_
            rintro e w4 ⟨rfl, hI4, hB4⟩
            have HI4 := Lib.hid hI4
            have HR4 : Hid (Kd.R (Kd.int .i64) 3 w4 w'.heap.size (· = go) (.slice (some ⟨go, 0, none⟩) l.length co) (quo tn sn l)) := Lib.hid (Kd.R_step HRo.out (fun j hj hlt => hB4.block j hlt (fun e => d2 (by rw [← hj]; exact e))))
            have HE4 := Lib.hid (HBE.out.trans (hB4.below HBE.out.size (fun j hj => by rw [hj]; exact z2)))
            clear hI4 hB4 HRo
            go_wp2_with fail
            go_loopw [89] (fun v wr => ∃ i : Nat, v = .int .i64 i ∧ i ≤ dn ∧ Hid (Kd.R (Kd.int .i64) 3 wr w'.heap.size (· = go) (.slice (some ⟨go, 0, none⟩) l.length co) (bump (quo tn sn l) (Ord.take i)) ∧ Ints wr gi Ord ∧ Below w'.heap.size w' wr ∧ ∀ z ∈ bump (quo tn sn l) (Ord.take i), 0 ≤ z ∧ z ≤ 1099511627776 + i)) (fun v _ => dn - (intOf v).toNat)
            case atStart => exact ⟨0, rfl, Nat.zero_le _, Lib.hid ⟨HR4.out, HI4.out, HE4.out, fun z hz => by have := HQB.out z hz; omega⟩⟩
            case round =>
              obtain ⟨i, rfl, hi, HI⟩ := hrel
              by_cases hid : i < dn
              · obtain ⟨hR5, hI5, hE5, hB5⟩ := HI.out
                have hil : i < Ord.length := by rw [HOL.out]; omega
                obtain ⟨p, hp⟩ : ∃ p, Ord[i] = p := ⟨_, rfl⟩
                have hpm := HOM.out p (by rw [← hp]; exact List.getElem_mem hil)
                obtain ⟨pn, rfl⟩ := Int.eq_ofNat_of_zero_le hpm.1
                have hpl : pn < l.length := by omega
                have ci := hI5.cell i hil
                rw [show Ord.getD i 0 = (pn : Int) by rw [List.getD_eq_getElem?_getD, List.getElem?_eq_getElem hil]; exact hp] at ci
                have htk : Ord.take (i + 1) = Ord.take i ++ [(pn : Int)] := by rw [List.take_succ_eq_append_getElem hil, hp]
                obtain ⟨X, hX⟩ : ∃ X, bump (quo tn sn l) (Ord.take i) = X := ⟨_, rfl⟩
                have hXl : X.length = l.length := by rw [← hX, bump_len, HQL.out.1]
                have hnew : bump (quo tn sn l) (Ord.take (i + 1)) = X.set pn (X.getD pn 0 + 1) := by rw [htk, bump_snoc, hX, Int.toNat_natCast]
                rw [hX] at hR5 hB5
                obtain ⟨co1, fo1⟩ := Kd.R_celln (0 : Int) hR5 (pn : Int) (by omega) (by omega)
                rw [Int.toNat_natCast] at co1 fo1
                have hz : rdOf (0 : Int) X (pn : Int) = X.getD pn 0 := by unfold rdOf; rw [Int.toNat_natCast]
                rw [hz] at co1
                have hzb := hB5 (X.getD pn 0) (by rw [List.getD_eq_getElem?_getD, List.getElem?_eq_getElem (by omega)]; exact List.getElem_mem _)
                have hR6 := Kd.R_putn hR5 (pn : Int) (X.getD pn 0 + 1)
                rw [Int.toNat_natCast, ← hnew] at hR6
                have hI6 := hI5.far (p := ⟨go, pn, none⟩) (fun e => d2 e.symm) (.int .i64 (X.getD pn 0 + 1))
                have hE6 := hE5.setCell (p := ⟨go, pn, none⟩) (by have := Kd.R_base hR5 go rfl; exact this) (.int .i64 (X.getD pn 0 + 1))
                have hB6 : ∀ z ∈ bump (quo tn sn l) (Ord.take (i + 1)), 0 ≤ z ∧ z ≤ 1099511627776 + ((i + 1 : Nat) : Int) := by
                  intro z hzm
                  rw [hnew] at hzm
                  rcases List.mem_or_eq_of_mem_set hzm with h | h
                  · have := hB5 z h; omega
                  · subst h; omega
                generalize X.getD pn 0 = zz at *
                have HN := Lib.hid (And.intro hR6 (And.intro hI6 (And.intro hE6 hB6)))
                have hplI : (pn : Int) < (l.length : Int) := by omega
                have hz2 : zz ≤ 2199023255552 := by omega
                have hz0 := hzb.1
                clear hR5 hI5 hE5 hB5 hR6 hI6 hE6 hB6 hnew htk hX hXl hz hp hpm hzb
                go_wp2_with fail
                go_roundw
                case rel => exact ⟨i + 1, by go_num, by omega, HN⟩
                case measure => simp [intOf]; omega
              · obtain rfl : i = dn := by omega
                go_wp2_with fail
                go_ret2
                exact ⟨_, rfl, by rw [Int.toNat_natCast, HVAL.out]; exact Kd.R_mono HI.out.1 (fun _ _ => trivial), HI.out.2.2.1⟩
end Go.Proofs.YtmahdomlmidfdaaDoor
