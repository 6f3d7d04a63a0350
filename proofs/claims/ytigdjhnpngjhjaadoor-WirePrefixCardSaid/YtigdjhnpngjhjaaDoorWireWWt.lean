/- What wire's writers give: over the print's functions, no program in sight. -/
import Derived.Test.YtigdjhnpngjhjaaDoorPWtx1
namespace Go.Proofs.YtigdjhnpngjhjaaDoor.WireWWt
open Go.RowKit Go.Proofs.YtigdjhnpngjhjaaDoor.PWt Go.Proofs.YtigdjhnpngjhjaaDoorW.PrintWords Go.Proofs.YtigdjhnpngjhjaaDoorW.PrintLast Go.Proofs.YtigdjhnpngjhjaaDoorW.PrintMore Go.Proofs.YtigdjhnpngjhjaaDoor.WireMath
set_option linter.unusedVariables false
theorem w64 {x : Int} (h0 : -9223372036854775808 ≤ x) (h1 : x ≤ 9223372036854775807) : wrap64 x = x := by unfold wrap64; omega
abbrev B (l : Bytes) : ByteArray := ⟨l.toArray⟩
theorem b_size (l : Bytes) : (B l).size = l.length := by show l.toArray.size = _; simp
theorem b_toList (l : Bytes) : (B l).toList = l := by rw [ByteArray.toList_eq]
theorem b_append (l m : Bytes) : B l ++ B m = B (l ++ m) := by apply ByteArray.ext; apply Array.ext'; simp
theorem b_eta (s : ByteArray) : B s.data.toList = s := by show (⟨s.data.toList.toArray⟩ : ByteArray) = s; rw [Array.toArray_toList]
theorem b_length (s : ByteArray) : s.data.toList.length = s.size := by rw [Array.length_toList]; rfl
/-! the writers -/
theorem int_eq {n : Int} (h : isInt n) : wire_Int.f n = some (B (encInt n)) := by
  unfold wire_Int.f
  have hl := itoa_length h
  rw [strconv_Itoa.tells h, Option.bind_some, if_pos (by show (Lib.itoa n).toArray.size + 1 ≤ _; simp; omega)]
  rw [show (⟨(Lib.itoa n).toArray⟩ : ByteArray) = B (Lib.itoa n) from rfl, show (⟨#[59]⟩ : ByteArray) = B [59] from rfl, b_append]
  rfl
theorem num_eq {n : Int} (h : isInt n) : wire_Num.f n = some (B (encNum n)) := by
  unfold wire_Num.f encNum
  by_cases h0 : n < 0
  · rw [if_pos h0, if_pos h0]
  · rw [if_neg h0, if_neg h0, int_eq h]; rfl
theorem text_eq {s : ByteArray} (h : s.size ≤ 140737488351232) : wire_Text.f s = some (B (encText s.data.toList)) := by
  unfold wire_Text.f
  rw [if_pos h]
theorem nums_eq {l : List Int} (h : ∀ x ∈ l, isInt x) (hl : (encNums l).length ≤ 140737488355328) : wire_Nums.f l = some (B (encNums l)) := by
  unfold wire_Nums.f
  rw [if_pos (by
    unfold wire_Nums.ok
    simp only [Bool.and_eq_true, List.all_eq_true, decide_eq_true_eq]
    exact ⟨fun x hx => h x hx, hl⟩)]
theorem texts_eq {l : List ByteArray} (h : ∀ x ∈ l, x.size ≤ 140737488351232) (hl : (encTexts (wire_Texts.bs l)).length ≤ 140737488355328) : wire_Texts.f l = some (B (encTexts (wire_Texts.bs l))) := by
  unfold wire_Texts.f
  rw [if_pos (by
    unfold wire_Texts.ok
    simp only [Bool.and_eq_true, List.all_eq_true, decide_eq_true_eq]
    exact ⟨fun x hx => h x hx, hl⟩)]
/-! how long -/
theorem encInt_le {n : Int} (h : isInt n) : (encInt n).length ≤ 21 := by
  have := itoa_length h
  simp [encInt]; omega
theorem encText_le (s : Bytes) (h : s.length ≤ 9223372036854775807) : (encText s).length ≤ s.length + 22 := by
  have := itoa_length (n := (s.length : Int)) ⟨by omega, by omega⟩
  simp [encText]; omega
theorem flat_le {α : Type} (f : α → Bytes) (c : Nat) (l : List α) (h : ∀ a ∈ l, (f a).length ≤ c) : ((l.map f).flatten).length ≤ l.length * c := by
  induction l with
  | nil => simp
  | cons a l ih =>
    have h1 := h a (by simp)
    have h2 := ih (fun b hb => h b (by simp [hb]))
    simp only [List.map_cons, List.flatten_cons, List.length_append, List.length_cons, Nat.add_mul, Nat.one_mul]
    omega
theorem encNums_le (l : List Int) (h : ∀ x ∈ l, isInt x) (hl : l.length ≤ 1000000) : (encNums l).length ≤ l.length * 21 + 22 := by
  have h1 := itoa_length (n := (l.length : Int)) ⟨by omega, by omega⟩
  have h2 := flat_le encInt 21 l (fun a ha => encInt_le (h a ha))
  simp only [encNums, List.length_append, List.length_cons, List.length_nil]; omega
theorem encTexts_le (l : List Bytes) (c : Nat) (h : ∀ x ∈ l, x.length ≤ c) (hc : c ≤ 1000000) (hl : l.length ≤ 1000000) : (encTexts l).length ≤ l.length * (c + 22) + 22 := by
  have h1 := itoa_length (n := (l.length : Int)) ⟨by omega, by omega⟩
  have h2 := flat_le encText (c + 22) l (fun a ha => by have := encText_le a (by have := h a ha; omega); have := h a ha; omega)
  simp only [encTexts, List.length_append, List.length_cons, List.length_nil]; omega
theorem bs_length (l : List ByteArray) : (wire_Texts.bs l).length = l.length := by simp [wire_Texts.bs]
theorem bs_mem {l : List ByteArray} {c : Nat} (h : ∀ x ∈ l, x.size ≤ c) : ∀ x ∈ wire_Texts.bs l, x.length ≤ c := by
  intro x hx
  simp only [wire_Texts.bs, List.mem_map] at hx
  obtain ⟨s, hs, rfl⟩ := hx
  rw [b_length]; exact h s hs
theorem itoa_nat (n : Nat) : Lib.itoa (n : Int) = Lib.decDigits n := by
  unfold Lib.itoa
  rw [if_neg (by omega)]; simp
end Go.Proofs.YtigdjhnpngjhjaaDoor.WireWWt
