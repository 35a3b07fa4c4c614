/- The walks of lexer.in and lexer.span. -/
import Derived.Test.YtmahdomlmidfdaaDoorShelf
import Derived.Shelf.Strings.SlTrimAscii
import Derived.Test.YtmahdomlmidfdaaDoorGok
import Derived.WalkKit
import Derived.Outline
import Derived.Lib.Hide
namespace Go.Proofs.YtmahdomlmidfdaaDoor
open Go.RowKit Go.Shelf

def lexIn (l set : List UInt8) : Bool := match l with
  | [] => false
  | c :: _ => decide (0 ≤ Lib.indexByte set c)

set_option maxHeartbeats 1000000 in
theorem lex_in (s set : ByteArray) (w : World) : Calls Tryd.prog 49 #[.string s, .string set] w fun e w' => e = .returned (.bool (lexIn s.data.toList set.data.toList)) ∧ w' = w := by
  rcases hs : s.data.toList with _ | ⟨c, r⟩
  · have h1 : s.toList = [] := by rw [Lib.toList_data]; exact hs
    have h2 : (s.toList == []) = true := by rw [h1]; rfl
    clear hs
    go_enter Tryd.func49, Tryd.ntmps49
    go_wp2_with fail
    go_ret
    exact ⟨rfl, rfl⟩
  · have h1 : s.toList.isEmpty = false := by rw [Lib.toList_data, hs]; rfl
    have h3 : 0 < s.size := by have := Lib.size_eq s; rw [hs] at this; simp at this; omega
    have h4 : s[0] = c := by
      have : s.data.toList[0]? = some c := by rw [hs]; rfl
      have h5 : s.data[0]? = some c := by simpa using this
      exact (Array.getElem?_eq_some_iff.1 h5).2
    have h2 : !s.toList.isEmpty := by rw [h1]; rfl
    have H4 := Lib.hid h4
    clear h4 hs
    go_enter Tryd.func49, Tryd.ntmps49
    go_wp2_with (go_at_call 56; refine (Tryd.strings_IndexByte _ _ _).mono ?_; rintro e w' ⟨rfl, rfl⟩)
    go_ret
    exact ⟨by rw [← H4.out]; rfl, rfl⟩

set_option maxHeartbeats 1000000 in
theorem lex_span (s set : ByteArray) (w : World) (hs : s.size ≤ 9223372036854775807) (hcs : set.size < 4294967281) (ha : ∀ (j : Nat) b, set.data.toList[j]? = some b → b.toNat < 128) :
    Calls Tryd.prog 50 #[.string s, .string set] w fun e w' => e = .returned (.int .i64 ((s.data.toList.takeWhile (set.data.toList.contains ·)).length : Nat)) ∧ Below w.heap.size w w' := by
  have hcon := Any.strings_TrimLeft_laid Tryd.lays161 (by kernel_rfl) s set w hcs ha
  change Calls Tryd.prog 57 _ _ (fun e w' => e = .returned (.string ⟨(Lib.trimLeftS s.data.toList set.data.toList).toArray⟩) ∧ Below w.heap.size w w') at hcon
  have hl : (s.size : Int) - ((⟨(Lib.trimLeftS s.data.toList set.data.toList).toArray⟩ : ByteArray).size : Int) = ((s.data.toList.takeWhile (set.data.toList.contains ·)).length : Nat) := by
    have h1 := congrArg List.length (List.takeWhile_append_dropWhile (p := (set.data.toList.contains ·)) (l := s.data.toList))
    rw [List.length_append] at h1
    have h2 := Lib.size_eq s
    have h3 : (⟨(Lib.trimLeftS s.data.toList set.data.toList).toArray⟩ : ByteArray).size = (s.data.toList.dropWhile (set.data.toList.contains ·)).length := by
      rw [Lib.size_eq]; rfl
    rw [h3, h2]; omega
  generalize (⟨(Lib.trimLeftS s.data.toList set.data.toList).toArray⟩ : ByteArray) = r at hcon hl ⊢
  generalize (s.data.toList.takeWhile (set.data.toList.contains ·)).length = n at hl ⊢
  have hr : (r.size : Int) ≤ s.size := by omega
  have H := Lib.hid hl
  clear hl
  go_enter Tryd.func50, Tryd.ntmps50
  go_wp2_with (go_at_call 57; refine hcon.mono ?_; rintro e w' ⟨rfl, hB⟩)
  go_ret
  exact ⟨by rw [← H.out]; rfl, hB⟩
def symVals : Array Value := #[.string ⟨#[45, 62]⟩, .string ⟨#[58]⟩, .string ⟨#[59]⟩, .string ⟨#[44]⟩, .string ⟨#[40]⟩, .string ⟨#[41]⟩, .string ⟨#[123]⟩, .string ⟨#[125]⟩, .string ⟨#[61]⟩, .string ⟨#[60]⟩, .string ⟨#[62]⟩, .string ⟨#[43]⟩, .string ⟨#[46]⟩]

def symBA : List ByteArray := [⟨#[45, 62]⟩, ⟨#[58]⟩, ⟨#[59]⟩, ⟨#[44]⟩, ⟨#[40]⟩, ⟨#[41]⟩, ⟨#[123]⟩, ⟨#[125]⟩, ⟨#[61]⟩, ⟨#[60]⟩, ⟨#[62]⟩, ⟨#[43]⟩, ⟨#[46]⟩]
theorem symVals_at (k : Nat) (h : k < 13) : symVals[k]? = some (.string (symBA.getD k ByteArray.empty)) := by
  rcases k with _|_|_|_|_|_|_|_|_|_|_|_|_|k <;> first | rfl | omega

set_option maxHeartbeats 1000000 in
theorem lex_symbols (w : World) : Calls Tryd.prog 52 #[] w fun e w' => e = .returned (.slice (some ⟨w.heap.size, 0, none⟩) 13 13) ∧ w' = w.alloc (.cells symVals 9) := by
  go_enter Tryd.func52, Tryd.ntmps52
  go_wp2
  go_ret
  exact ⟨rfl, rfl⟩
end Go.Proofs.YtmahdomlmidfdaaDoor
