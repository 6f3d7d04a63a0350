/- Bytes and how long encodings are: plain facts. -/
import Derived.Test.YtdgbfaflepiagaaDoorWireMath
import Derived.Test.YtdgbfaflepiagaaDoorWWords
namespace Go.Proofs.YtdgbfaflepiagaaDoor.WireB
open Go.RowKit Go.Proofs.YtdgbfaflepiagaaDoorW.PrintWords Go.Proofs.YtdgbfaflepiagaaDoor.WireMath
set_option linter.unusedVariables false
theorem w64 {x : Int} (h0 : -9223372036854775808 ≤ x) (h1 : x ≤ 9223372036854775807) : wrap64 x = x := by unfold wrap64; omega
abbrev B (l : Bytes) : ByteArray := ⟨l.toArray⟩
theorem b_size (l : Bytes) : (B l).size = l.length := by show l.toArray.size = _; simp
theorem b_toList (l : Bytes) : (B l).toList = l := by rw [ByteArray.toList_eq]
theorem b_append (l m : Bytes) : B l ++ B m = B (l ++ m) := by apply ByteArray.ext; apply Array.ext'; simp
theorem b_eta (s : ByteArray) : B s.data.toList = s := by show (⟨s.data.toList.toArray⟩ : ByteArray) = s; rw [Array.toArray_toList]
theorem b_length (s : ByteArray) : s.data.toList.length = s.size := by rw [Array.length_toList]; rfl
theorem encInt_le {n : Int} (h : isInt n) : (encInt n).length ≤ 21 := by
  have := itoa_length h
  simp [encInt]; omega
theorem encText_le (s : Bytes) (h : s.length ≤ 9223372036854775807) : (encText s).length ≤ s.length + 22 := by
  have := itoa_length (n := (s.length : Int)) ⟨by omega, by omega⟩
  simp [encText]; omega
theorem flat_le {α : Type} (f : α → Bytes) (c : Nat) (l : List α) (h : ∀ a ∈ l, (f a).length ≤ c) : ((l.map f).flatten).length ≤ l.length * c := by
  induction l with
  | nil => simp
  | cons a l ih =>
    have h1 := h a (by simp)
    have h2 := ih (fun b hb => h b (by simp [hb]))
    simp only [List.map_cons, List.flatten_cons, List.length_append, List.length_cons, Nat.add_mul, Nat.one_mul]
    omega
theorem encNums_le (l : List Int) (h : ∀ x ∈ l, isInt x) (hl : l.length ≤ 1000000) : (encNums l).length ≤ l.length * 21 + 22 := by
  have h1 := itoa_length (n := (l.length : Int)) ⟨by omega, by omega⟩
  have h2 := flat_le encInt 21 l (fun a ha => encInt_le (h a ha))
  simp only [encNums, List.length_append, List.length_cons, List.length_nil]; omega
theorem encTexts_le (l : List Bytes) (c : Nat) (h : ∀ x ∈ l, x.length ≤ c) (hc : c ≤ 1000000) (hl : l.length ≤ 1000000) : (encTexts l).length ≤ l.length * (c + 22) + 22 := by
  have h1 := itoa_length (n := (l.length : Int)) ⟨by omega, by omega⟩
  have h2 := flat_le encText (c + 22) l (fun a ha => by have := encText_le a (by have := h a ha; omega); have := h a ha; omega)
  simp only [encTexts, List.length_append, List.length_cons, List.length_nil]; omega
theorem itoa_nat (n : Nat) : Lib.itoa (n : Int) = Lib.decDigits n := by
  unfold Lib.itoa
  rw [if_neg (by omega)]; simp
end Go.Proofs.YtdgbfaflepiagaaDoor.WireB
