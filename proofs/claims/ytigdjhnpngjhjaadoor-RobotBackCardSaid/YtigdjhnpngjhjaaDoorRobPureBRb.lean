/- RobotBack as a law over numbers and lists: no program in sight. -/
import Derived.Test.YtigdjhnpngjhjaaDoorRobPureRb
import Derived.Test.YtigdjhnpngjhjaaDoorPRbx7
import Derived.Test.YtigdjhnpngjhjaaDoorPRbx10
import Derived.Test.YtigdjhnpngjhjaaDoorPRbx11
import Derived.Test.YtigdjhnpngjhjaaDoorPRbx9
namespace Go.Proofs.YtigdjhnpngjhjaaDoor.RobPureRb
open Go.RowKit Go.Proofs.YtigdjhnpngjhjaaDoor.PRb Go.Proofs.YtigdjhnpngjhjaaDoorW.PrintWords Go.Proofs.YtigdjhnpngjhjaaDoorW.PrintLast Go.Proofs.YtigdjhnpngjhjaaDoorW.PrintMore
set_option linter.unusedVariables false
set_option linter.unusedSimpArgs false
abbrev B (l : List UInt8) : ByteArray := ⟨l.toArray⟩
theorem b_size (l : List UInt8) : (B l).size = l.length := by show l.toArray.size = _; simp
theorem b_toList (l : List UInt8) : (B l).toList = l := by rw [ByteArray.toList_eq]
theorem b_append (l m : List UInt8) : B l ++ B m = B (l ++ m) := by apply ByteArray.ext; apply Array.ext'; simp
theorem b_eta (s : ByteArray) : B s.data.toList = s := by show (⟨s.data.toList.toArray⟩ : ByteArray) = s; rw [Array.toArray_toList]
theorem enc_int {n : Int} (h : WireMath.isInt n) : wire_Int.f n = some (B (WireMath.encInt n)) := by
  unfold wire_Int.f
  have hl := WireMath.itoa_length h
  rw [strconv_Itoa.tells h, Option.bind_some, if_pos (by show (Lib.itoa n).toArray.size + 1 ≤ _; simp; omega)]
  rw [show (⟨(Lib.itoa n).toArray⟩ : ByteArray) = B (Lib.itoa n) from rfl, show (⟨#[59]⟩ : ByteArray) = B [59] from rfl, b_append]
  rfl
theorem enc_int_le {n : Int} (h : WireMath.isInt n) : (WireMath.encInt n).length ≤ 21 := by
  have := WireMath.itoa_length h
  simp [WireMath.encInt]; omega
theorem flat_le {α : Type} (f : α → List UInt8) (c : Nat) (l : List α) (h : ∀ a ∈ l, (f a).length ≤ c) : ((l.map f).flatten).length ≤ l.length * c := by
  induction l with
  | nil => simp
  | cons a l ih =>
    have h1 := h a (by simp)
    have h2 := ih (fun b hb => h b (by simp [hb]))
    simp only [List.map_cons, List.flatten_cons, List.length_append, List.length_cons, Nat.add_mul, Nat.one_mul]
    omega
theorem enc_nums_le (l : List Int) (h : ∀ x ∈ l, WireMath.isInt x) (hl : l.length ≤ 1000000) : (WireMath.encNums l).length ≤ l.length * 21 + 22 := by
  have h1 := WireMath.itoa_length (n := (l.length : Int)) ⟨by omega, by omega⟩
  have h2 := flat_le WireMath.encInt 21 l (fun a ha => enc_int_le (h a ha))
  simp only [WireMath.encNums, List.length_append, List.length_cons, List.length_nil]; omega
theorem enc_nums {l : List Int} (h : ∀ x ∈ l, WireMath.isInt x) (hl : l.length ≤ 1000000) : wire_Nums.f l = some (B (WireMath.encNums l)) := by
  have := enc_nums_le l h hl
  unfold wire_Nums.f
  rw [if_pos (by
    unfold wire_Nums.ok
    simp only [Bool.and_eq_true, List.all_eq_true, decide_eq_true_eq]
    exact ⟨fun x hx => h x hx, by omega⟩)]
theorem rd_nums (l : List UInt8) (b : Bool) (h : l.length ≤ 17592186044400) : wire_Reader_Nums.f (B l) b = some ((WireMath.rNums (l, b)).1, B (WireMath.rNums (l, b)).2.1, (WireMath.rNums (l, b)).2.2) := by
  unfold wire_Reader_Nums.f
  rw [if_pos (by rw [b_size]; exact h)]
  rfl
theorem rd_int (l : List UInt8) (b : Bool) : wire_Reader_Int.f (B l) b = some ((WireMath.rInt (l, b)).1, B (WireMath.rInt (l, b)).2.1, (WireMath.rInt (l, b)).2.2) := wire_Reader_Nums.int_eq l b
theorem rd_done (l : List UInt8) (b : Bool) : wire_Reader_Done.f (B l) b = some (!b && l.isEmpty, B l, b) := by
  unfold wire_Reader_Done.f
  cases b
  · rw [if_neg (by simp), b_toList]
    cases l <;> rfl
  · rfl
theorem small_some {k : Nat} (hk : 30 ≤ k) : taquinlaw22_small.f k = some true :=
  at_rounds (g := fun k => taquinlaw22_small.f k) (fun k => taquinlaw22_small.mono k) hk (by decide +kernel)
section
variable {W H D : Int} {kd ot : List Int}
def enc (c : Int) (q : List Int) : List UInt8 := WireMath.encInt c ++ WireMath.encNums q
theorem MR.ints {F : FR W H D kd ot} {c : Int} {q : List Int} (m : MR F c q) (hk : kd.length ≤ 40) : WireMath.isInt c ∧ ∀ x ∈ q, WireMath.isInt x := by
  have h0 := m.c0
  have h1 := m.c1
  refine ⟨⟨by omega, by omega⟩, fun x hx => ?_⟩
  have := small_of m.kn x hx
  exact ⟨by omega, by omega⟩
theorem bytes_is {F : FR W H D kd ot} {c : Int} {q : List Int} (m : MR F c q) (hk : kd.length ≤ 40) : robot_Bytes.f c q = some (B (enc c q)) := by
  obtain ⟨h1, h2⟩ := m.ints hk
  have h4 := m.q4
  have l1 := enc_int_le h1
  have l2 := enc_nums_le q h2 (by omega)
  unfold robot_Bytes.f
  rw [enc_int h1, Option.bind_some, enc_nums h2 (by omega), Option.bind_some, if_pos (by rw [b_size, b_size]; omega), b_append]
  rfl
theorem read_is (F : FR W H D kd ot) (hkd : kd.length ≤ 40) (t : List UInt8) (ht : t.length ≤ 1000000) {k : Nat} (hk : kd.length + 10 ≤ k) :
    ∃ c q b, robot_Read.f k W H D kd ot (B t) = some (c, q, b) ∧ (b = true → MR F c q ∧ t = enc c q) ∧ (b = false → c = 0 ∧ q = []) := by
  have hle : (WireMath.rInt (t, false)).2.1.length ≤ t.length := (WireMath.number_le 59 (by decide) (-9223372036854775808) (t, false)).1
  unfold robot_Read.f
  rw [show wire_Open.f (B t) = some (B t, false) from rfl, Option.bind_some]
  simp only
  rw [rd_int, Option.bind_some]
  generalize WireMath.rInt (t, false) = r0 at hle
  obtain ⟨c, u0, d0⟩ := r0
  simp only at hle ⊢
  rw [rd_nums _ _ (Nat.le_trans hle (by omega)), Option.bind_some]
  generalize WireMath.rNums (u0, d0) = r
  obtain ⟨q, u, d⟩ := r
  simp only
  rw [rd_done, Option.bind_some]
  simp only
  have no : ∃ c q b, (some (0, ([] : List Int), false) : Option (Int × List Int × Bool)) = some (c, q, b) ∧ (b = true → MR F c q ∧ t = enc c q) ∧ (b = false → c = 0 ∧ q = []) := ⟨0, [], false, rfl, (fun h => nomatch h), fun _ => ⟨rfl, rfl⟩⟩
  by_cases hd : (!d && u.isEmpty) = true
  · rw [if_pos hd]
    obtain ⟨b, hb, hiff⟩ := right_is F c q hk
    rw [hb, Option.bind_some]
    cases b with
    | false => rw [if_neg (by simp)]; exact no
    | true =>
      have m := hiff.1 rfl
      rw [if_pos rfl, bytes_is m hkd, Option.bind_some]
      by_cases he : (B (enc c q)).toList = (B t).toList
      · rw [if_pos he]
        rw [b_toList, b_toList] at he
        exact ⟨c, q, true, rfl, fun _ => ⟨m, he.symm⟩, fun h => by cases h⟩
      · rw [if_neg he]; exact no
  · rw [if_neg hd]; exact no
theorem read_back {F : FR W H D kd ot} {c : Int} {q : List Int} (m : MR F c q) (hkd : kd.length ≤ 40) {k : Nat} (hk : kd.length + 10 ≤ k) : robot_Read.f k W H D kd ot (B (enc c q)) = some (c, q, true) := by
  obtain ⟨h1, h2⟩ := m.ints hkd
  have h4 := m.q4
  have l2 := enc_nums_le q h2 (by omega)
  unfold robot_Read.f
  rw [show wire_Open.f (B (enc c q)) = some (B (enc c q), false) from rfl, Option.bind_some]
  simp only
  rw [rd_int]
  have e1 : WireMath.rInt (enc c q, false) = (c, (WireMath.encNums q ++ [], false)) := by rw [List.append_nil]; exact WireMath.rInt_enc h1 _ _
  rw [e1, Option.bind_some]
  simp only
  rw [rd_nums _ _ (by rw [List.append_nil]; omega), WireMath.rNums_enc (by omega) h2 [], Option.bind_some]
  simp only
  rw [rd_done, Option.bind_some, if_pos (by rfl), right_t F m hk, Option.bind_some, if_pos rfl, bytes_is m hkd, Option.bind_some, if_pos rfl]
end
theorem back (W H D : Int) (kd ot : List Int) (c : Int) (q : List Int) (text : ByteArray) : ∃ k, taquinlaw22_RobotBack.f k W H D kd ot c q text = some true := by
  refine ⟨502, ?_⟩
  obtain ⟨t, rfl⟩ : ∃ t : List UInt8, text = B t := ⟨text.data.toList, (b_eta text).symm⟩
  unfold taquinlaw22_RobotBack.f
  rw [small_some (by omega), Option.bind_some]
  obtain ⟨b, hb⟩ := few_some W H D kd ot c q
  rw [hb 502 (by omega), Option.bind_some]
  cases b with
  | false =>
    rw [if_neg (by simp)]
    show taquinlaw22_RobotBack.j0 (501 + 1) (B t) true true W H D kd ot c q = some true
    simp only [taquinlaw22_RobotBack.j0, if_true]
  | true =>
    obtain ⟨F, hkd, hq⟩ := few_is (hb 502 (by omega)) rfl
    rw [if_pos rfl]
    by_cases ht : ((B t).size : Int) > 300
    · rw [decide_eq_true ht]
      show taquinlaw22_RobotBack.j0 (501 + 1) (B t) true true W H D kd ot c q = some true
      simp only [taquinlaw22_RobotBack.j0, if_true]
    · rw [decide_eq_false ht]
      rw [b_size] at ht
      have fin : taquinlaw22_RobotBack.j1 501 true false W H D kd ot c q = some true := by
        show taquinlaw22_RobotBack.j1 (500 + 1) true false W H D kd ot c q = some true
        simp only [taquinlaw22_RobotBack.j1, Bool.false_eq_true, if_false, if_true]
        obtain ⟨b, hb, hiff⟩ := right_is F c q (k := 500) (by omega)
        rw [hb, Option.bind_some]
        cases b with
        | false => rw [if_neg (by simp)]
        | true =>
          have m := hiff.1 rfl
          rw [if_pos rfl, bytes_is m hkd, Option.bind_some, read_back m hkd (by omega), Option.bind_some]
          simp only [if_true]
          rw [ref22_t c q (by omega) (by omega)]
          rfl
      show taquinlaw22_RobotBack.j0 (501 + 1) (B t) true false W H D kd ot c q = some true
      simp only [taquinlaw22_RobotBack.j0, Bool.false_eq_true, if_false]
      obtain ⟨x, y, b, hr, h1, h2⟩ := read_is F hkd t (by omega) (k := 501) (by omega)
      rw [hr, Option.bind_some]
      cases b with
      | true =>
        obtain ⟨m, he⟩ := h1 rfl
        simp only [if_true]
        rw [bytes_is m hkd, Option.bind_some, if_pos (by rw [he]), right_t F m (by omega), Option.bind_some, if_pos rfl]
        exact fin
      | false =>
        obtain ⟨rfl, rfl⟩ := h2 rfl
        simp only [Bool.false_eq_true, if_false, if_true]
        exact fin
end Go.Proofs.YtigdjhnpngjhjaaDoor.RobPureRb
