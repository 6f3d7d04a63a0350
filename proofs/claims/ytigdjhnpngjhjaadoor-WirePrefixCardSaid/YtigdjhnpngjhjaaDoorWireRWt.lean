/- What wire's reader gives: over the print's functions, no program in sight. -/
import Derived.Test.YtigdjhnpngjhjaaDoorWireWWt
import Derived.Test.YtigdjhnpngjhjaaDoorPWtx1
import Derived.Test.YtigdjhnpngjhjaaDoorPWtx2
import Derived.Test.YtigdjhnpngjhjaaDoorPWtx3
namespace Go.Proofs.YtigdjhnpngjhjaaDoor.WireRWt
open Go.RowKit Go.Proofs.YtigdjhnpngjhjaaDoor.PWt Go.Proofs.YtigdjhnpngjhjaaDoorW.PrintWords Go.Proofs.YtigdjhnpngjhjaaDoorW.PrintLast Go.Proofs.YtigdjhnpngjhjaaDoorW.PrintMore Go.Proofs.YtigdjhnpngjhjaaDoor.WireMath Go.Proofs.YtigdjhnpngjhjaaDoor.WireWWt
set_option linter.unusedVariables false
theorem num (l : Bytes) (b : Bool) : wire_Reader_Num.f (B l) b = some ((rNum (l, b)).1, B (rNum (l, b)).2.1, (rNum (l, b)).2.2) := by
  unfold wire_Reader_Num.f
  rw [show (59 : Int) = ((59 : UInt8).toNat : Int) from rfl, wire_Reader_Nums.number_eq 59 (by decide)]
  rfl
theorem int (l : Bytes) (b : Bool) : wire_Reader_Int.f (B l) b = some ((rInt (l, b)).1, B (rInt (l, b)).2.1, (rInt (l, b)).2.2) := wire_Reader_Nums.int_eq l b
theorem text (l : Bytes) (b : Bool) : wire_Reader_Text.f (B l) b = some (B (rText (l, b)).1, B (rText (l, b)).2.1, (rText (l, b)).2.2) := wire_Reader_Texts.text_eq l b
theorem nums (l : Bytes) (b : Bool) (h : l.length ≤ 17592186044400) : wire_Reader_Nums.f (B l) b = some ((rNums (l, b)).1, B (rNums (l, b)).2.1, (rNums (l, b)).2.2) := by
  unfold wire_Reader_Nums.f
  rw [if_pos (by rw [b_size]; exact h)]
  rfl
theorem texts (l : Bytes) (b : Bool) (h : l.length ≤ 8796093022200) : wire_Reader_Texts.f (B l) b = some ((rTexts (l, b)).1.map B, B (rTexts (l, b)).2.1, (rTexts (l, b)).2.2) := by
  unfold wire_Reader_Texts.f
  rw [if_pos (by rw [b_size]; exact h)]
  rfl
theorem left (l : Bytes) (b : Bool) : wire_Reader_Left.f (B l) b = some ((l.length : Int), B l, b) := by
  unfold wire_Reader_Left.f; rw [b_size]
theorem done (l : Bytes) (b : Bool) : wire_Reader_Done.f (B l) b = some (!b && l.isEmpty, B l, b) := by
  unfold wire_Reader_Done.f
  cases b
  · rw [if_neg (by simp), b_toList]
    cases l <;> rfl
  · rfl
/-! what is read is small -/
theorem number_int {e : UInt8} (he : 57 < e.toNat) (least : Int) (r : Rd) : isInt (number e least r).1 := by
  unfold number
  split
  · rename_i n t hr
    exact ((rdNum_some he).1 hr).2.2
  · exact ⟨by show _ ≤ (0 : Int); omega, by show (0 : Int) ≤ _; omega⟩
theorem rInt_int (r : Rd) : isInt (rInt r).1 := number_int (by decide) _ r
theorem rNum_int (r : Rd) : isInt (rNum r).1 := number_int (by decide) _ r
theorem rText_len (r : Rd) : (rText r).1.length ≤ r.1.length := by
  have h1 := number_le 58 (by decide) 0 r
  unfold rText
  simp only
  split
  · exact Nat.zero_le _
  · split
    · exact Nat.zero_le _
    · have := h1.1
      simp only [List.length_take]
      omega
theorem rMany_all {α : Type} (one : Rd → α × Rd) (P : α → Prop) (h : ∀ r, P (one r).1) : ∀ n r, ∀ x ∈ (rMany one n r).1, P x := by
  intro n
  induction n with
  | zero => intro r x hx; simp [rMany] at hx
  | succ n ih =>
    intro r x hx
    unfold rMany at hx
    split at hx
    · simp at hx
    · simp only [List.mem_cons] at hx
      rcases hx with rfl | hx
      · exact h r
      · exact ih _ x hx
theorem rMany_len (c : Nat) : ∀ n (r : Rd), r.1.length ≤ c → ∀ x ∈ (rMany rText n r).1, x.length ≤ c := by
  intro n
  induction n with
  | zero => intro r _ x hx; simp [rMany] at hx
  | succ n ih =>
    intro r hr x hx
    unfold rMany at hx
    split at hx
    · simp at hx
    · simp only [List.mem_cons] at hx
      rcases hx with rfl | hx
      · exact Nat.le_trans (rText_len r) hr
      · exact ih _ (Nat.le_trans (rText_le r).1 hr) x hx
theorem rNums_int (r : Rd) : ∀ x ∈ (rNums r).1, isInt x := by
  unfold rNums rList
  simp only
  split
  · intro x hx; simp at hx
  · exact rMany_all _ _ rInt_int _ _
theorem rTexts_len (r : Rd) : ∀ x ∈ (rTexts r).1, x.length ≤ r.1.length := by
  unfold rTexts rList
  simp only
  split
  · intro x hx; simp at hx
  · exact rMany_len _ _ _ (number_le 91 (by decide) 0 r).1
theorem rNums_failed {r : Rd} (h : (rNums r).2.2 = true) : (rNums r).1 = [] := by
  unfold rNums rList at h ⊢
  simp only at h ⊢
  rw [if_pos h]
theorem rTexts_failed {r : Rd} (h : (rTexts r).2.2 = true) : (rTexts r).1 = [] := by
  unfold rTexts rList at h ⊢
  simp only at h ⊢
  rw [if_pos h]
theorem bs_map (l : List Bytes) : wire_Texts.bs (l.map B) = l := by
  unfold wire_Texts.bs
  rw [List.map_map]
  conv => rhs; rw [← List.map_id l]
  exact List.map_congr_left fun a _ => rfl
end Go.Proofs.YtigdjhnpngjhjaaDoor.WireRWt
