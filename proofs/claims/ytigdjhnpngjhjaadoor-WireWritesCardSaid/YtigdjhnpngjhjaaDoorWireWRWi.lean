/- What the reference's writers give: over the print's functions, no program in sight. -/
import Derived.Test.YtigdjhnpngjhjaaDoorWireWWi
import Derived.Test.YtigdjhnpngjhjaaDoorPWix3
import Derived.Test.YtigdjhnpngjhjaaDoorPWix4
namespace Go.Proofs.YtigdjhnpngjhjaaDoor.WireWWi
open Go.RowKit Go.Proofs.YtigdjhnpngjhjaaDoor.PWi Go.Proofs.YtigdjhnpngjhjaaDoorW.PrintWords Go.Proofs.YtigdjhnpngjhjaaDoorW.PrintLast Go.Proofs.YtigdjhnpngjhjaaDoorW.PrintMore Go.Proofs.YtigdjhnpngjhjaaDoor.WireMath
set_option linter.unusedVariables false
/-! the reference's writers -/
theorem tmod_neg {u : Nat} : (-(u : Int)).tmod 10 = -((u % 10 : Nat) : Int) := by
  rw [Int.neg_tmod]; rfl
theorem tdiv_neg {u : Nat} : (-(u : Int)).tdiv 10 = -((u / 10 : Nat) : Int) := by
  rw [Int.neg_tdiv]; rfl
theorem dig_byte (u : Nat) : strOfNums [wrap64 (48 - (-(u : Int)).tmod 10) % 256] = B [UInt8.ofNat (48 + u % 10)] := by
  rw [tmod_neg]
  have h1 : wrap64 (48 - -((u % 10 : Nat) : Int)) = ((48 + u % 10 : Nat) : Int) := by rw [w64 (by omega) (by omega)]; omega
  have h2 : ((48 + u % 10 : Nat) : Int) % 256 = ((48 + u % 10 : Nat) : Int) := by omega
  rw [h1, h2]
  rfl
theorem digits_ev (u : Nat) (h : u ≤ 9223372036854775808) : Ev (fun k => taquinref01_digits.f k (-(u : Int))) (B (Lib.decDigits u)) := by
  induction u using Nat.strongRecOn with
  | _ u ih =>
    refine Ev.step (f := fun k => if (-(u : Int)) > (-10) then (some (B [UInt8.ofNat (48 + u % 10)])) else ((taquinref01_digits.f k (-((u / 10 : Nat) : Int))).bind fun t144 => (if t144.size + (B [UInt8.ofNat (48 + u % 10)]).size ≤ 9223372036854775807 then (some (t144 ++ B [UInt8.ofNat (48 + u % 10)])) else (none)))) (fun k => ?_) ?_
    · simp only [taquinref01_digits.f, Option.bind_some]
      rw [dig_byte, tdiv_neg, w64 (by omega) (by omega)]
    · rw [Lib.decDigits]
      by_cases hu : u < 10
      · refine Ev.congr (fun k => if_pos (by omega)) ?_
        rw [dif_pos hu, Nat.mod_eq_of_lt hu]
        exact Ev.now _
      · refine Ev.congr (fun k => if_neg (by omega)) ?_
        rw [dif_neg hu]
        refine Ev.bind (ih (u / 10) (by omega) (by omega)) ?_
        have hl := Lib.decDigits_length (u / 10)
        have hn := nDigits_lt (u / 10) 18 (by omega)
        refine Ev.congr (fun k => if_pos (by rw [b_size, b_size, hl]; simp only [List.length_singleton]; omega)) ?_
        rw [b_append]
        exact Ev.now _
theorem dec_le (u : Nat) (h : u ≤ 9223372036854775808) : (Lib.decDigits u).length ≤ 19 := by
  rw [Lib.decDigits_length]; exact nDigits_lt u 18 (by omega)
theorem ref_int_ev {n : Int} (h : isInt n) : Ev (fun k => taquinref01_Int.f k n) (B (encInt n)) := by
  obtain ⟨h0, h1⟩ := h
  unfold taquinref01_Int.f encInt Lib.itoa
  by_cases hn : n < 0
  · refine Ev.congr (fun k => if_pos hn) ?_
    rw [if_pos hn]
    have hu : n = -((n.natAbs : Nat) : Int) := by omega
    have hd := digits_ev n.natAbs (by omega)
    rw [← hu] at hd
    have hl := dec_le n.natAbs (by omega)
    refine Ev.bind hd ?_
    refine Ev.congr (fun k => if_pos (by rw [b_size]; omega)) ?_
    refine Ev.congr (fun k => if_pos (by rw [b_size]; omega)) ?_
    rw [show (⟨#[45]⟩ : ByteArray) = B [45] from rfl, show (⟨#[59]⟩ : ByteArray) = B [59] from rfl, b_append, b_append]
    exact Ev.now _
  · refine Ev.congr (fun k => if_neg hn) ?_
    rw [if_neg hn]
    have hu : wrap64 (-n) = -((n.toNat : Nat) : Int) := by rw [w64 (by omega) (by omega)]; omega
    have hd := digits_ev n.toNat (by omega)
    rw [← hu] at hd
    have hl := dec_le n.toNat (by omega)
    refine Ev.bind hd ?_
    refine Ev.congr (fun k => if_pos (by rw [b_size]; omega)) ?_
    rw [show (⟨#[59]⟩ : ByteArray) = B [59] from rfl, b_append]
    exact Ev.now _
theorem ref_num_ev {n : Int} (h : isInt n) : Ev (fun k => taquinref01_Num.f k n) (B (encNum n)) := by
  unfold taquinref01_Num.f encNum
  by_cases hn : n < 0
  · refine Ev.congr (fun k => if_pos hn) ?_
    rw [if_pos hn]; exact Ev.now _
  · refine Ev.congr (fun k => if_neg hn) ?_
    rw [if_neg hn]
    exact Ev.bind (ref_int_ev h) (Ev.now _)
theorem ref_text_ev {s : ByteArray} (h : s.size ≤ 140737488351232) : Ev (fun k => taquinref01_Text.f k s) (B (encText s.data.toList)) := by
  unfold taquinref01_Text.f
  refine Ev.congr (fun k => if_pos h) ?_
  have hl := dec_le s.size (by omega)
  refine Ev.bind (digits_ev s.size (by omega)) ?_
  refine Ev.congr (fun k => if_pos (by rw [b_size]; omega)) ?_
  have e : B (Lib.decDigits s.size) ++ (⟨#[58]⟩ : ByteArray) ++ s ++ (⟨#[44]⟩ : ByteArray) = B (encText s.data.toList) := by
    apply ByteArray.ext; apply Array.ext'
    simp [encText, itoa_nat]
  rw [e]
  exact Ev.now _
/-- a list's elements, one behind the other: the loops of Nums and Texts -/
theorem ref_nums_l0 (l : List Int) (h : ∀ x ∈ l, isInt x) (hl : l.length ≤ 1000000) : ∀ (d : Nat) (i : Nat) (x : Bytes), l.length - i = d → i ≤ l.length → x.length ≤ 1000 + i * 21 →
    Ev (fun k => taquinref01_Nums.l0 k l (B x) (i : Int)) (B (x ++ ((l.drop i).map encInt).flatten ++ [93])) := by
  intro d
  induction d with
  | zero =>
    intro i x hd hi hx
    refine Ev.step (f := fun k => some (B (x ++ ((l.drop i).map encInt).flatten ++ [93]))) (fun k => ?_) (Ev.now _)
    simp only [taquinref01_Nums.l0]
    rw [if_neg (by omega), if_pos (by rw [b_size]; omega), show (⟨#[93]⟩ : ByteArray) = B [93] from rfl, b_append, List.drop_eq_nil_of_le (by omega)]
    simp
  | succ d ih =>
    intro i x hd hi hx
    have hlt : i < l.length := by omega
    have hm : isInt l[i] := h _ (List.getElem_mem hlt)
    have hrd : rd l (i : Int) = l[i] := by unfold rd; simp [List.getD, hlt]
    have hle := encInt_le hm
    refine Ev.step (f := fun k => (taquinref01_Int.f k l[i]).bind fun t150 => (if (B x).size + t150.size ≤ 9223372036854775807 then (taquinref01_Nums.l0 k l (B x ++ t150) ((i + 1 : Nat) : Int)) else (none))) (fun k => ?_) ?_
    · simp only [taquinref01_Nums.l0]
      rw [if_pos (by omega), if_pos (by omega), hrd, w64 (x := (i : Int) + 1) (by omega) (by omega)]
      rfl
    · refine Ev.bind (ref_int_ev hm) ?_
      refine Ev.congr (fun k => if_pos (by rw [b_size, b_size]; omega)) ?_
      rw [b_append]
      have := ih (i + 1) (x ++ encInt l[i]) (by omega) (by omega) (by rw [List.length_append]; omega)
      rw [List.drop_eq_getElem_cons hlt, List.map_cons, List.flatten_cons]
      simpa [List.append_assoc] using this
theorem ref_nums_ev {l : List Int} (h : ∀ x ∈ l, isInt x) (hl : l.length ≤ 1000000) : Ev (fun k => taquinref01_Nums.f k l) (B (encNums l)) := by
  unfold taquinref01_Nums.f
  have hu : wrap64 (-(l.length : Int)) = -(l.length : Int) := w64 (by omega) (by omega)
  rw [hu]
  have hd := dec_le l.length (by omega)
  refine Ev.bind (digits_ev l.length (by omega)) ?_
  refine Ev.congr (fun k => if_pos (by rw [b_size]; omega)) ?_
  rw [show (⟨#[91]⟩ : ByteArray) = B [91] from rfl, b_append]
  have := ref_nums_l0 l h hl (l.length - 0) 0 (Lib.decDigits l.length ++ [91]) rfl (by omega) (by rw [List.length_append]; simp only [List.length_singleton]; omega)
  simpa [encNums, itoa_nat, List.append_assoc] using this
theorem ref_texts_l0 (l : List ByteArray) (h : ∀ x ∈ l, x.size ≤ 1000000) (hl : l.length ≤ 1000000) : ∀ (d : Nat) (i : Nat) (x : Bytes), l.length - i = d → i ≤ l.length → x.length ≤ 1000 + i * 1000022 →
    Ev (fun k => taquinref01_Texts.l0 k l (B x) (i : Int)) (B (x ++ ((((wire_Texts.bs l).drop i).map encText).flatten) ++ [93])) := by
  intro d
  induction d with
  | zero =>
    intro i x hd hi hx
    refine Ev.step (f := fun k => some (B (x ++ (((wire_Texts.bs l).drop i).map encText).flatten ++ [93]))) (fun k => ?_) (Ev.now _)
    simp only [taquinref01_Texts.l0]
    rw [if_neg (by omega), if_pos (by rw [b_size]; omega), show (⟨#[93]⟩ : ByteArray) = B [93] from rfl, b_append, List.drop_eq_nil_of_le (by rw [bs_length]; omega)]
    simp
  | succ d ih =>
    intro i x hd hi hx
    have hlt : i < l.length := by omega
    have hlt2 : i < (wire_Texts.bs l).length := by rw [bs_length]; exact hlt
    have hm : l[i].size ≤ 1000000 := h _ (List.getElem_mem hlt)
    have hrd : rdOf ByteArray.empty l (i : Int) = l[i] := by unfold rdOf; simp [List.getD, hlt]
    have hle := encText_le l[i].data.toList (by rw [b_length]; omega)
    rw [b_length] at hle
    have hbs : (wire_Texts.bs l)[i] = l[i].data.toList := by simp [wire_Texts.bs]
    refine Ev.step (f := fun k => (taquinref01_Text.f k l[i]).bind fun t153 => (if (B x).size + t153.size ≤ 9223372036854775807 then (taquinref01_Texts.l0 k l (B x ++ t153) ((i + 1 : Nat) : Int)) else (none))) (fun k => ?_) ?_
    · simp only [taquinref01_Texts.l0]
      rw [if_pos (by omega), if_pos (by omega), hrd, w64 (x := (i : Int) + 1) (by omega) (by omega)]
      rfl
    · refine Ev.bind (ref_text_ev (by omega)) ?_
      refine Ev.congr (fun k => if_pos (by rw [b_size, b_size]; omega)) ?_
      rw [b_append]
      have := ih (i + 1) (x ++ encText l[i].data.toList) (by omega) (by omega) (by rw [List.length_append]; omega)
      rw [List.drop_eq_getElem_cons hlt2, List.map_cons, List.flatten_cons, hbs]
      simpa [List.append_assoc] using this
theorem ref_texts_ev {l : List ByteArray} (h : ∀ x ∈ l, x.size ≤ 1000000) (hl : l.length ≤ 1000000) : Ev (fun k => taquinref01_Texts.f k l) (B (encTexts (wire_Texts.bs l))) := by
  unfold taquinref01_Texts.f
  have hu : wrap64 (-(l.length : Int)) = -(l.length : Int) := w64 (by omega) (by omega)
  rw [hu]
  have hd := dec_le l.length (by omega)
  refine Ev.bind (digits_ev l.length (by omega)) ?_
  refine Ev.congr (fun k => if_pos (by rw [b_size]; omega)) ?_
  rw [show (⟨#[91]⟩ : ByteArray) = B [91] from rfl, b_append]
  have := ref_texts_l0 l h hl (l.length - 0) 0 (Lib.decDigits l.length ++ [91]) rfl (by omega) (by rw [List.length_append]; simp only [List.length_singleton]; omega)
  simpa [encTexts, itoa_nat, bs_length, List.append_assoc] using this
end Go.Proofs.YtigdjhnpngjhjaaDoor.WireWWi
