/- A region that draws its order, by an invariant over the operations that have come up. -/
import Derived.Orders
import Derived.Tactics
import Derived.WalkKit
namespace Go.Proofs.YtmahdomlmidfdaaDoor
open Go Go.RowKit

/-- Every operation hangs on earlier ones alone. -/
def dagB (ops : Array Oper) : Bool := (List.range ops.size).all fun i => ((ops[i]?).map fun o => o.after.all fun e => !Region.binds .any e || decide (e.on < i)).getD true

theorem rgi_go {P : Program} {ops : Array Oper} {Q : Exit → Act → World → Prop} (hd : dagB ops = true) (A : (Nat → Bool) → Act → World → Prop)
    (hs : ∀ (l : Nat → Bool) (a : Act) (w : World) (i : Nat) (o : Oper), ops[i]? = some o → A l a w → l i = false → (∀ e ∈ o.after, Region.binds .any e = true → l e.on = true) → wpOp P ops Q i (A (fun k => k == i || l k)) a w)
    (he : ∀ (l : Nat → Bool) (a : Act) (w : World), A l a w → (∀ i, i < ops.size → l i = true) → Q .normal a w) :
    ∀ (fuel : Nat) (listed : Array Bool) (a : Act) (w : World), listed.size = ops.size → (listed.toList.count false) ≤ fuel → A (fun k => listed.getD k false) a w → wpAny P .any ops Q fuel listed a w := by
  have hend : ∀ (listed : Array Bool) (a : Act) (w : World), listed.size = ops.size → Region.ready .any ops listed = [] → A (fun k => listed.getD k false) a w → Q .normal a w := by
    intro listed a w hsz hr hA
    refine he _ _ _ hA ?_
    intro i
    induction i using Nat.strongRecOn with
    | _ i ih =>
      intro hi
      rcases hb : listed.getD i false with _ | _
      · exfalso
        have hmem : i ∈ Region.ready .any ops listed := by
          unfold Region.ready
          rw [List.mem_filter]
          refine ⟨List.mem_range.2 hi, ?_⟩
          have h1 : listed.getD i true = false := by
            rw [Array.getD_eq_getD_getElem?] at hb ⊢
            rw [Array.getElem?_eq_getElem (by omega)] at hb ⊢
            exact hb
          rw [h1]
          obtain ⟨o, ho⟩ : ∃ o, ops[i]? = some o := ⟨ops[i], Array.getElem?_eq_getElem hi⟩
          rw [ho]
          have h2 := List.all_eq_true.1 hd i (List.mem_range.2 hi)
          rw [ho] at h2
          simp only [Option.map_some, Option.getD_some, Bool.not_false, Bool.true_and] at h2 ⊢
          rw [Array.all_eq_true_iff_forall_mem] at h2 ⊢
          intro e hm
          have h3 := h2 e hm
          rcases hbd : Region.binds .any e with _ | _
          · simp
          · rw [hbd] at h3
            have hlt : e.on < i := by simpa using h3
            have := ih e.on hlt (by omega)
            rw [Array.getD_eq_getD_getElem?] at this ⊢
            simpa using this
        rw [hr] at hmem
        cases hmem
      · rfl
  intro fuel
  induction fuel with
  | zero =>
    intro listed a w hsz hc hA
    have hall : ∀ x ∈ listed.toList, x = true := by
      intro x hx
      rcases x with _ | _
      · have := List.count_pos_iff.2 hx; omega
      · rfl
    have hr : Region.ready .any ops listed = [] := by
      unfold Region.ready
      rw [List.filter_eq_nil_iff]
      intro i hi
      have hi' := List.mem_range.1 hi
      have h1 : listed.getD i true = true := by
        rw [Array.getD_eq_getD_getElem?, Array.getElem?_eq_getElem (by omega)]
        exact hall _ (by simp)
      rw [h1]
      simp
    exact ⟨hr, hend listed a w hsz hr hA⟩
  | succ fuel ih =>
    intro listed a w hsz hc hA
    refine ⟨fun hr => hend listed a w hsz hr hA, fun i hi => ?_⟩
    have hi2 := hi
    unfold Region.ready at hi2
    rw [List.mem_filter] at hi2
    obtain ⟨h1, h2⟩ := hi2
    have hin := List.mem_range.1 h1
    obtain ⟨o, ho⟩ : ∃ o, ops[i]? = some o := ⟨ops[i], Array.getElem?_eq_getElem hin⟩
    rw [ho] at h2
    simp only [Option.map_some, Option.getD_some, Bool.and_eq_true, Bool.not_eq_true'] at h2
    obtain ⟨h3, h4⟩ := h2
    have hli : listed.getD i false = false := by
      rw [Array.getD_eq_getD_getElem?, Array.getElem?_eq_getElem (by omega)] at h3 ⊢
      exact h3
    refine wpOp_mono (fun a' w' hA' => ih (listed.setIfInBounds i true) a' w' (by simpa using hsz) ?_ ?_) (hs _ a w i o ho hA hli ?_)
    · have hlt : i < listed.toList.length := by simpa [hsz] using hin
      have hx : listed.toList[i] = false := by
        rw [Array.getD_eq_getD_getElem?, Array.getElem?_eq_getElem (by omega)] at h3
        simpa using h3
      have e9 : (listed.toList.set i true).count false = listed.toList.count false - 1 := by
        rw [List.count_set hlt, hx]
        simp
      rw [Array.toList_setIfInBounds, e9]
      omega
    · have e1 : (fun k => (listed.setIfInBounds i true).getD k false) = (fun k => k == i || listed.getD k false) := by
        funext k
        rw [Array.getD_eq_getD_getElem?, Array.getD_eq_getD_getElem?, Array.getElem?_setIfInBounds]
        by_cases hk : i = k
        · subst hk
          simp [hsz, hin]
        · simp [hk, Ne.symm hk]
      rw [e1]
      exact hA'
    · intro e hm hb
      rw [Array.all_eq_true_iff_forall_mem] at h4
      have := h4 e hm
      rw [hb] at this
      simpa using this

theorem region_inv {P : Program} {id : Nat} {ops : Array Oper} {Q : Exit → Act → World → Prop} {a : Act} {w : World} (hm : P.follows .mixedOrders = true) (hd : dagB ops = true) (A : (Nat → Bool) → Act → World → Prop)
    (h0 : A (fun _ => false) a w.drew)
    (hs : ∀ (l : Nat → Bool) (a : Act) (w : World) (i : Nat) (o : Oper), ops[i]? = some o → A l a w → l i = false → (∀ e ∈ o.after, Region.binds .any e = true → l e.on = true) → wpOp P ops Q i (A (fun k => k == i || l k)) a w)
    (he : ∀ (l : Nat → Bool) (a : Act) (w : World), A l a w → (∀ i, i < ops.size → l i = true) → Q .normal a w) :
    (Code.region id ops true).wp P Q a w := by
  refine wp_region_any hm (rgi_go hd A hs he ops.size _ a _ (by simp) (by simp) ?_)
  have e1 : (fun k => (Array.replicate ops.size false).getD k false) = fun _ => false := by
    funext k
    rw [Array.getD_eq_getD_getElem?, Array.getElem?_replicate]
    split <;> rfl
  rw [e1]
  exact h0

/-- One operation, as a list of one. -/
theorem wpOp_one {P : Program} {ops : Array Oper} {Q : Exit → Act → World → Prop} {i : Nat} {o : Oper} {K : Act → World → Prop} {a : Act} {w : World} (ho : ops[i]? = some o)
    (h : ∀ Q' : Exit → Act → World → Prop, (∀ a w, K a w → Q' .normal a w) → wpList P ops Q' [o] a w) : wpOp P ops Q i K a w := by
  have h1 := h (fun e a w => match e with | .normal => K a w | e => Q e a w) (fun a w hK => hK)
  unfold wpOp
  rw [ho]
  unfold wpList at h1
  simp only [] at h1 ⊢
  split
  · rename_i hw
    rw [if_pos hw] at h1
    refine h1.imp (fun h2 => ?_) (fun h2 => ⟨h2.1, by obtain ⟨a, w, h⟩ := h2.2; exact ⟨a, w, h⟩⟩)
    · unfold Oper.wp at h2 ⊢
      generalize (execOp a.eval o).run P w = r at *
      cases r with
      | ok n w' =>
        cases n <;> simp only [Oper.upon] at h2 ⊢ <;>
          first
            | exact h2
            | exact Calls.mono h2 (fun e w'' he => by cases e <;> first | exact he | skip)
            | exact Rows.mono h2 (fun _ _ he => he)
      | halt x w' => cases x <;> simp only [Oper.upon] at h2 ⊢ <;> exact h2
  · rename_i hw
    rw [if_neg hw] at h1
    exact h1
/-- a, but s in the slots of ds. -/
def frmS (a : Act) : List Nat → (Nat → Value) → Act
  | [], _ => a
  | d :: ds, s => (frmS a ds s).put (some d) (s d)
/-- s, but v at d. -/
def updS (s : Nat → Value) (d : Nat) (v : Value) : Nat → Value := fun k => if k = d then v else s k
theorem upd_same (s : Nat → Value) (d : Nat) (v : Value) : updS s d v d = v := if_pos rfl
theorem upd_other (s : Nat → Value) {d k : Nat} (v : Value) (h : k ≠ d) : updS s d v k = s k := if_neg h
theorem frmS_own (a : Act) : ∀ ds, frmS a ds (fun d => a.tmps.getD d undef) = a
  | [] => rfl
  | d :: ds => by
    unfold frmS
    rw [frmS_own a ds]
    unfold Act.put
    have : a.tmps.setIfInBounds d (a.tmps.getD d undef) = a.tmps := by
      apply Array.ext_getElem?
      intro i
      rw [Array.getElem?_setIfInBounds]
      by_cases h : d = i
      · subst h
        rw [if_pos rfl]
        by_cases h2 : d < a.tmps.size
        · rw [if_pos h2, Array.getD_eq_getD_getElem?, Array.getElem?_eq_getElem h2]
          rfl
        · rw [if_neg h2, Array.getElem?_eq_none (by omega)]
      · rw [if_neg h]
    simp only [this]

theorem put_size (a : Act) (d : Nat) (v : Value) : (a.put (some d) v).tmps.size = a.tmps.size := by simp [Act.put]
theorem frmS_size (a : Act) (s : Nat → Value) : ∀ ds, (frmS a ds s).tmps.size = a.tmps.size
  | [] => rfl
  | d :: ds => by unfold frmS; rw [put_size, frmS_size a s ds]
theorem put_eval_same (a : Act) (d : Nat) (v : Value) (h : d < a.tmps.size) : (a.put (some d) v).eval (.tmp d) = v := by
  unfold Act.put Act.eval
  simp only []
  rw [Array.getD_eq_getD_getElem?, Array.getElem?_setIfInBounds, if_pos rfl, if_pos h]
  rfl
theorem put_eval_other (a : Act) (d k : Nat) (v : Value) (h : d ≠ k) : (a.put (some d) v).eval (.tmp k) = a.eval (.tmp k) := by
  unfold Act.put Act.eval
  simp only []
  rw [Array.getD_eq_getD_getElem?, Array.getD_eq_getD_getElem?, Array.getElem?_setIfInBounds, if_neg h]
theorem frmS_other (a : Act) (s : Nat → Value) (k : Nat) : ∀ ds, k ∉ ds → (frmS a ds s).eval (.tmp k) = a.eval (.tmp k)
  | [], _ => rfl
  | d :: ds, h => by
    unfold frmS
    rw [put_eval_other _ _ _ _ (fun e => h (by simp [e])), frmS_other a s k ds (fun e => h (by simp [e]))]
theorem frmS_eval (a : Act) (s : Nat → Value) (k : Nat) (hk : k < a.tmps.size) : ∀ ds, k ∈ ds → (frmS a ds s).eval (.tmp k) = s k
  | d :: ds, h => by
    unfold frmS
    by_cases e : d = k
    · subst e; exact put_eval_same _ _ _ (by rw [frmS_size]; exact hk)
    · rw [put_eval_other _ _ _ _ e]
      exact frmS_eval a s k hk ds (by rcases List.mem_cons.1 h with h | h; exact absurd h.symm e; exact h)
theorem frmS_congr (a : Act) (s s' : Nat → Value) : ∀ ds, (∀ d ∈ ds, s d = s' d) → frmS a ds s = frmS a ds s'
  | [], _ => rfl
  | d :: ds, h => by unfold frmS; rw [frmS_congr a s s' ds (fun x hx => h x (by simp [hx])), h d (by simp)]
theorem put_put (a : Act) (d : Nat) (v v' : Value) : (a.put (some d) v).put (some d) v' = a.put (some d) v' := by
  unfold Act.put
  simp
theorem put_comm (a : Act) (d e : Nat) (v u : Value) (h : d ≠ e) : (a.put (some d) v).put (some e) u = (a.put (some e) u).put (some d) v := by
  unfold Act.put
  simp only [Act.mk.injEq, and_true]
  exact Array.setIfInBounds_comm _ _ h
theorem frmS_put (a : Act) (s : Nat → Value) (k : Nat) (v : Value) : ∀ ds, ds.Nodup → k ∈ ds → (frmS a ds s).put (some k) v = frmS a ds (updS s k v)
  | d :: ds, hn, h => by
    rw [List.nodup_cons] at hn
    by_cases e : d = k
    · subst e
      unfold frmS
      rw [put_put, frmS_congr a (updS s d v) s ds (fun x hx => by unfold updS; rw [if_neg (fun e2 : x = d => hn.1 (by rw [← e2]; exact hx))])]
      unfold updS
      rw [if_pos rfl]
    · have h' : k ∈ ds := by rcases List.mem_cons.1 h with h | h; exact absurd h.symm e; exact h
      unfold frmS
      rw [put_comm _ _ _ _ _ e, frmS_put a s k v ds hn.2 h']
      congr 1
      unfold updS
      rw [if_neg e]
theorem act_gen {P : Program} {c : Code} {Q : Exit → Act → World → Prop} {a : Act} {w : World} (h : ∀ a0 : Act, a0 = a → c.wp P Q a0 w) : c.wp P Q a w := h a rfl
/-- An operation that moves a value. -/
theorem wpOp_move {P : Program} {ops : Array Oper} {Q : Exit → Act → World → Prop} {i : Nat} {o : Oper} {K : Act → World → Prop} {a : Act} {w : World} (ho : ops[i]? = some o) (hg : o.guard = none) {x : Operand} (hop : o.op = .move x ∨ o.op = .assign x)
    (h : K (a.put o.dst (a.eval x)) w) : wpOp P ops Q i K a w := by
  unfold wpOp
  rw [ho]
  have hw : Region.wanted o (yielded ops a.tmps) = true := by unfold Region.wanted; rw [hg]
  simp only [hw, if_true]
  refine .inl ?_
  unfold Oper.wp
  rcases hop with hop | hop <;> (unfold execOp; rw [hop]; exact h)

/-- An operation that makes a block. -/
theorem wpOp_run {P : Program} {ops : Array Oper} {Q : Exit → Act → World → Prop} {i : Nat} {o : Oper} {K : Act → World → Prop} {a : Act} {w w' : World} {v : Value} (ho : ops[i]? = some o) (hg : o.guard = none)
    (hrun : (execOp a.eval o).run P w = .ok (.value v) w') (h : K (a.put o.dst v) w') : wpOp P ops Q i K a w := by
  unfold wpOp
  rw [ho]
  have hw : Region.wanted o (yielded ops a.tmps) = true := by unfold Region.wanted; rw [hg]
  simp only [hw, if_true]
  refine .inl ?_
  unfold Oper.wp
  rw [hrun]
  exact h
theorem region_inv_s {P : Program} {id : Nat} {ops : Array Oper} {Q : Exit → Act → World → Prop} {a : Act} {w : World} (hm : P.follows .mixedOrders = true) (hd : dagB ops = true) (ds : List Nat) (R : (Nat → Bool) → (Nat → Value) → World → Prop)
    (h0 : ∀ s, R (fun _ => false) s w.drew)
    (hs : ∀ (l : Nat → Bool) (s : Nat → Value) (W : World) (i : Nat) (o : Oper), ops[i]? = some o → R l s W → l i = false → (∀ e ∈ o.after, Region.binds .any e = true → l e.on = true) →
      wpOp P ops Q i (fun a' W' => ∃ s', a' = frmS a ds s' ∧ R (fun k => k == i || l k) s' W') (frmS a ds s) W)
    (he : ∀ (l : Nat → Bool) (s : Nat → Value) (W : World), R l s W → (∀ i, i < ops.size → l i = true) → Q .normal (frmS a ds s) W) :
    (Code.region id ops true).wp P Q a w := by
  refine region_inv hm hd (fun l a' W => ∃ s, a' = frmS a ds s ∧ R l s W) ⟨_, (frmS_own a ds).symm, h0 _⟩ ?_ ?_
  · rintro l a' W i o ho ⟨s, rfl, hR⟩ hli hdeps
    exact hs l s W i o ho hR hli hdeps
  · rintro l a' W ⟨s, rfl, hR⟩ hall
    exact he l s W hR hall
end Go.Proofs.YtmahdomlmidfdaaDoor
