/- Maps whose elements are bools, by what they answer. -/
import Derived.Maps.OwnSet
import Derived.WalkKit
namespace Go.Proofs.YtmahdomlmidfdaaDoor
open Go Go.ChangeMaps Go.MapKept Go.RowKit
open Go.Maps (Keyed IsMap)

/-- Block b of w is a map of at most n entries, its elements bools, that answers f. -/
def MapB (P : Program) (k e : TypeId) (w : World) (b n : Nat) (f : Lit → Bool) : Prop :=
  ∃ D : DataW Unit, w.ownsMap P k (plainElem P e) b n D ∧ ∀ l, D.atKey l (.lit (.bool false)) = .lit (.bool (f l))

theorem plainElem_bool_inv {P : Program} {e : TypeId} (he : P.underlying e = some .bool) {v : Value} {z : DataW Unit × List MemPlace} (h : plainElem P e v = some z) : ∃ x, v = .bool x ∧ z = (.lit (.bool x), []) := by
  unfold plainElem at h
  rw [he] at h
  cases v <;> simp at h
  subst h
  exact ⟨_, rfl, rfl⟩

theorem MapB.made (P : Program) (k e : TypeId) (w : World) : MapB P k e (w.alloc (.map #[] 0)) w.heap.size 0 (fun _ => false) :=
  ⟨.map [], World.ownsMap_made _ _ _ _, fun _ => rfl⟩
theorem MapB.lt {P : Program} {k e : TypeId} {w : World} {b n : Nat} {f : Lit → Bool} (h : MapB P k e w b n f) : b < w.heap.size := by
  obtain ⟨D, h, _⟩ := h; exact h.lt
theorem MapB.kept {P : Program} {k e : TypeId} {w w' : World} {b n : Nat} {f : Lit → Bool} {row : Option Nat} (h : MapB P k e w b n f) (hg : w.grownBy w' row) (hne : some b ≠ row) : MapB P k e w' b n f := by
  obtain ⟨D, h, hf⟩ := h; exact ⟨D, h.kept hg hne, hf⟩
theorem MapB.below {P : Program} {k e : TypeId} {w w' : World} {b n : Nat} {f : Lit → Bool} (h : MapB P k e w b n f) (hb : Below w.heap.size w w') : MapB P k e w' b n f :=
  h.kept (row := none) ⟨hb.os, hb.tape, hb.output, hb.size, fun i hi _ => hb.block i hi⟩ (by simp)
theorem MapB.alloc {P : Program} {k e : TypeId} {w : World} {b n : Nat} {f : Lit → Bool} (h : MapB P k e w b n f) (o : Obj) : MapB P k e (w.alloc o) b n f := by
  obtain ⟨D, h, hf⟩ := h; exact ⟨D, h.alloc o, hf⟩
theorem MapB.setCell {P : Program} {k e : TypeId} {w : World} {b n : Nat} {f : Lit → Bool} (h : MapB P k e w b n f) {a : Addr} (ha : b ≠ a.block) (u : Value) : MapB P k e (w.setCell a u) b n f := by
  obtain ⟨D, h, hf⟩ := h; exact ⟨D, h.setCell ha u, hf⟩
theorem MapB.mono {P : Program} {k e : TypeId} {w : World} {b n m : Nat} {f : Lit → Bool} (h : MapB P k e w b n f) (hm : n ≤ m) : MapB P k e w b m f := by
  obtain ⟨D, h, hf⟩ := h; exact ⟨D, h.mono hm, hf⟩
theorem MapB.congr {P : Program} {k e : TypeId} {w : World} {b n : Nat} {f g : Lit → Bool} (h : MapB P k e w b n f) (hg : ∀ l, f l = g l) : MapB P k e w b n g := by
  obtain ⟨D, h, hf⟩ := h; exact ⟨D, h, fun l => by rw [hf, hg]⟩

theorem MapB.look {P : Program} {k e t : TypeId} {w : World} {b n : Nat} {f : Lit → Bool} (h : MapB P k e w b n f) (K : Keyed P k) (ht : P.underlying t = some (.map k e)) (he : P.underlying e = some .bool) (hz : (zeroValue e).run P w = .ok (.bool false) w)
    {key : Value} {kl : Lit} (hkey : keyOf P k key = some kl) : (Instr.lookup t (.map (some b)) key false).run P w = .ok (.bool (f kl)) w := by
  obtain ⟨D, h, hf⟩ := h
  obtain ⟨v, ps, hrun, hv⟩ := h.lookup K ht hz (plainElem_bool (H := Unit) he false) hkey
  rw [hf kl] at hv
  obtain ⟨x, rfl, hx⟩ := plainElem_bool_inv he hv
  injection hx with hx _
  injection hx with hx
  injection hx with hx
  rw [hrun, hx]

open Classical in
/-- f, but x at kl. -/
noncomputable def updB (f : Lit → Bool) (kl : Lit) (x : Bool) : Lit → Bool := fun l => if l = kl then x else f l
theorem updB_same (f : Lit → Bool) (kl : Lit) (x : Bool) : updB f kl x kl = x := by unfold updB; rw [if_pos rfl]
theorem updB_other (f : Lit → Bool) {l kl : Lit} (x : Bool) (h : l ≠ kl) : updB f kl x l = f l := by unfold updB; rw [if_neg h]
theorem MapB.put {P : Program} {k e t : TypeId} {w : World} {b n : Nat} {f : Lit → Bool} (h : MapB P k e w b n f) (K : Keyed P k) (ht : P.underlying t = some (.map k e)) (he : P.underlying e = some .bool) (hn : n < maxLen) (x : Bool)
    {key : Value} {kl : Lit} (hkey : keyOf P k key = some kl) : ∃ w', (Instr.mapUpdate t (.map (some b)) key (.bool x)).run P w = .ok () w' ∧ MapB P k e w' b (n + 1) (updB f kl x) ∧ w.grownBy w' (some b) := by
  obtain ⟨D, h, hf⟩ := h
  obtain ⟨w', hrun, how, hg⟩ := h.update K ht hn hkey (plainElem_bool (H := Unit) he x)
  refine ⟨w', hrun, ⟨_, how, fun l => ?_⟩, hg⟩
  by_cases hl : l = kl
  · subst hl
    rw [Maps.atKey_put_same h.isMap (K.key hkey), updB_same]
  · rw [Maps.atKey_put_other hl, updB_other _ _ hl, hf]

theorem wpList_lookB {P : Program} (w : World) {ops : Array Oper} {rest : List Oper} {o : Oper} {a : Act} {Q : Exit → Act → World → Prop}
    (hg : o.guard = none) (m x : Operand) (t : TypeId) (hop : o.op = Op.lookup t m x false) (k e : TypeId) (K : Keyed P k) (ht : P.underlying t = some (.map k e)) (he : P.underlying e = some .bool) (hz : (zeroValue e).run P w = .ok (.bool false) w)
    (b n : Nat) (f : Lit → Bool) (hm : a.eval m = .map (some b)) (h : MapB P k e w b n f) (key : Value) (kl : Lit) (hx : a.eval x = key) (hkey : keyOf P k key = some kl)
    (hK : wpList P ops Q rest (a.put o.dst (.bool (f kl))) w) : wpList P ops Q (o :: rest) a w := by
  refine wpList_plain hg fun K' hK' => ?_
  have hrun := h.look K ht he hz hkey
  unfold Oper.wp
  simp [execOp, hop, hm, hx, hrun, Result.andThen]
  exact hK' _ _ hK

theorem wpList_putB {P : Program} (w : World) {ops : Array Oper} {rest : List Oper} {o : Oper} {a : Act} {Q : Exit → Act → World → Prop}
    (hg : o.guard = none) (m x v : Operand) (t : TypeId) (hop : o.op = Op.mapUpdate t m x v) (k e : TypeId) (K : Keyed P k) (ht : P.underlying t = some (.map k e)) (he : P.underlying e = some .bool)
    (b n : Nat) (f : Lit → Bool) (hm : a.eval m = .map (some b)) (h : MapB P k e w b n f) (hn : n < maxLen) (key : Value) (kl : Lit) (y : Bool) (hx : a.eval x = key) (hv : a.eval v = .bool y) (hkey : keyOf P k key = some kl)
    (hK : ∀ w', MapB P k e w' b (n + 1) (updB f kl y) → w.grownBy w' (some b) → wpList P ops Q rest (a.put o.dst undef) w') : wpList P ops Q (o :: rest) a w := by
  refine wpList_plain hg fun K' hK' => ?_
  obtain ⟨w', hrun, r1, r2⟩ := h.put K ht he hn y hkey
  unfold Oper.wp
  simp [execOp, hop, hm, hx, hv, hrun, Result.andThen]
  exact hK' _ _ (hK w' r1 r2)

theorem key_int {P : Program} {k : TypeId} {q : IntKind} (hk : P.underlying k = some (.int q)) {x : Int} (hw : (Lit.int q x).wf = true) : keyOf P k (.int q x) = some (.int q x) := by
  simp [keyOf, mapKey, hk, hw]
theorem key_str {P : Program} {k : TypeId} (hk : P.underlying k = some .string) {s : ByteArray} (hs : s.size ≤ maxLen) : keyOf P k (.string s) = some (.string s.data.toList) := by
  simp [keyOf, mapKey, hk, hs]
end Go.Proofs.YtmahdomlmidfdaaDoor
