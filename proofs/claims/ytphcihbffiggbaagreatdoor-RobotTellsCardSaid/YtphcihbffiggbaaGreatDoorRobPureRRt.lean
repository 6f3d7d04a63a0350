/- A mind written and read: over numbers and lists, no program in sight. -/
import Derived.Test.YtphcihbffiggbaaGreatDoorRobPureRt
import Derived.Test.YtphcihbffiggbaaGreatDoorWireB
import Derived.Test.YtphcihbffiggbaaGreatDoorPRtx9
import Derived.Test.YtphcihbffiggbaaGreatDoorPRtx8
namespace Go.Proofs.YtphcihbffiggbaaGreatDoor.RobPureRt
open Go.RowKit Go.Proofs.YtphcihbffiggbaaGreatDoor.PRt Go.Proofs.YtphcihbffiggbaaGreatDoorW.PrintWords Go.Proofs.YtphcihbffiggbaaGreatDoorW.PrintLast Go.Proofs.YtphcihbffiggbaaGreatDoorW.PrintMore Go.Proofs.YtphcihbffiggbaaGreatDoor.WireB
set_option linter.unusedVariables false
set_option linter.unusedSimpArgs false
theorem enc_int {n : Int} (h : WireMath.isInt n) : wire_Int.f n = some (B (WireMath.encInt n)) := by
  unfold wire_Int.f
  have hl := WireMath.itoa_length h
  rw [strconv_Itoa.tells h, Option.bind_some, if_pos (by show (Lib.itoa n).toArray.size + 1 ≤ _; simp; omega)]
  rw [show (⟨(Lib.itoa n).toArray⟩ : ByteArray) = B (Lib.itoa n) from rfl, show (⟨#[59]⟩ : ByteArray) = B [59] from rfl, b_append]
  rfl
theorem enc_nums {l : List Int} (h : ∀ x ∈ l, WireMath.isInt x) (hl : l.length ≤ 1000000) : wire_Nums.f l = some (B (WireMath.encNums l)) := by
  have := encNums_le l h hl
  unfold wire_Nums.f
  rw [if_pos (by
    unfold wire_Nums.ok
    simp only [Bool.and_eq_true, List.all_eq_true, decide_eq_true_eq]
    exact ⟨fun x hx => h x hx, by omega⟩)]
theorem rd_nums (l : List UInt8) (b : Bool) (h : l.length ≤ 17592186044400) : wire_Reader_Nums.f (B l) b = some ((WireMath.rNums (l, b)).1, B (WireMath.rNums (l, b)).2.1, (WireMath.rNums (l, b)).2.2) := by
  unfold wire_Reader_Nums.f
  rw [if_pos (by rw [b_size]; exact h)]
  rfl
theorem rd_int (l : List UInt8) (b : Bool) : wire_Reader_Int.f (B l) b = some ((WireMath.rInt (l, b)).1, B (WireMath.rInt (l, b)).2.1, (WireMath.rInt (l, b)).2.2) := wire_Reader_Nums.int_eq l b
theorem rd_done (l : List UInt8) (b : Bool) : wire_Reader_Done.f (B l) b = some (!b && l.isEmpty, B l, b) := by
  unfold wire_Reader_Done.f
  cases b
  · rw [if_neg (by simp), b_toList]
    cases l <;> rfl
  · rfl
theorem read_eq (k : Nat) (a0_0 a0_1 a0_2 : Int) (l0_3 l0_4 : List Int) (a1 : ByteArray) : robot_Read.f (k + 1) a0_0 a0_1 a0_2 l0_3 l0_4 a1 = (wire_Open.f a1).bind fun bt287 => ((wire_Reader_Int.f bt287.1 bt287.2).bind fun bt290 => ((wire_Reader_Nums.f bt290.2.1 bt290.2.2).bind fun bt293 => ((wire_Reader_Done.f bt293.2.1 bt293.2.2).bind fun bt299 => (if bt299.1 = true then ((robot_Right.f (k + 1) a0_0 a0_1 a0_2 l0_3 l0_4 bt290.1 bt293.1).bind fun t302 => (if t302 = true then ((robot_Bytes.f bt290.1 bt293.1).bind fun t303 => (if t303.toList = a1.toList then (some (bt290.1, bt293.1, true)) else (some (0, ([] : List Int), false)))) else (some (0, ([] : List Int), false)))) else (some (0, ([] : List Int), false)))))) := by
  unfold robot_Read.f
  simp only [robot_Read.j0, bne_iff_ne, ne_eq, ite_not, if_true]
section
variable {W H D : Int} {kd ot : List Int}
def enc (c : Int) (q : List Int) : List UInt8 := WireMath.encInt c ++ WireMath.encNums q
theorem MR.ints {F : FR W H D kd ot} {c : Int} {q : List Int} (m : MR F c q) (hk : kd.length ≤ 40) : WireMath.isInt c ∧ ∀ x ∈ q, WireMath.isInt x := by
  have h0 := m.c0
  have h1 := m.c1
  refine ⟨⟨by omega, by omega⟩, fun x hx => ?_⟩
  have := small_of m.kn x hx
  exact ⟨by omega, by omega⟩
theorem bytes_is {F : FR W H D kd ot} {c : Int} {q : List Int} (m : MR F c q) (hk : kd.length ≤ 40) : robot_Bytes.f c q = some (B (enc c q)) := by
  obtain ⟨h1, h2⟩ := m.ints hk
  have h4 := m.q4
  have l1 := encInt_le h1
  have l2 := encNums_le q h2 (by omega)
  unfold robot_Bytes.f
  rw [enc_int h1, Option.bind_some, enc_nums h2 (by omega), Option.bind_some, if_pos (by rw [b_size, b_size]; omega), b_append]
  rfl
end
end Go.Proofs.YtphcihbffiggbaaGreatDoor.RobPureRt
