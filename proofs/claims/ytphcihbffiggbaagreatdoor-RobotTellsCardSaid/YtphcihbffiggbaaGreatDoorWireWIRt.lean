/- What the reference's Int gives: over the print's functions, no program in sight. -/
import Derived.Test.YtphcihbffiggbaaGreatDoorWireB
import Derived.Test.YtphcihbffiggbaaGreatDoorPRtx11
namespace Go.Proofs.YtphcihbffiggbaaGreatDoor.WireWRt
open Go.RowKit Go.Proofs.YtphcihbffiggbaaGreatDoor.PRt Go.Proofs.YtphcihbffiggbaaGreatDoorW.PrintWords Go.Proofs.YtphcihbffiggbaaGreatDoorW.PrintLast Go.Proofs.YtphcihbffiggbaaGreatDoorW.PrintMore Go.Proofs.YtphcihbffiggbaaGreatDoor.WireMath Go.Proofs.YtphcihbffiggbaaGreatDoor.WireB
set_option linter.unusedVariables false
theorem tmod_neg {u : Nat} : (-(u : Int)).tmod 10 = -((u % 10 : Nat) : Int) := by
  rw [Int.neg_tmod]; rfl
theorem tdiv_neg {u : Nat} : (-(u : Int)).tdiv 10 = -((u / 10 : Nat) : Int) := by
  rw [Int.neg_tdiv]; rfl
theorem dig_byte (u : Nat) : strOfNums [wrap64 (48 - (-(u : Int)).tmod 10) % 256] = B [UInt8.ofNat (48 + u % 10)] := by
  rw [tmod_neg]
  have h1 : wrap64 (48 - -((u % 10 : Nat) : Int)) = ((48 + u % 10 : Nat) : Int) := by rw [w64 (by omega) (by omega)]; omega
  have h2 : ((48 + u % 10 : Nat) : Int) % 256 = ((48 + u % 10 : Nat) : Int) := by omega
  rw [h1, h2]
  rfl
theorem digits_ev (u : Nat) (h : u ≤ 9223372036854775808) : Ev (fun k => taquinref01_digits.f k (-(u : Int))) (B (Lib.decDigits u)) := by
  induction u using Nat.strongRecOn with
  | _ u ih =>
    refine Ev.step (f := fun k => if (-(u : Int)) > (-10) then (some (B [UInt8.ofNat (48 + u % 10)])) else ((taquinref01_digits.f k (-((u / 10 : Nat) : Int))).bind fun t144 => (if t144.size + (B [UInt8.ofNat (48 + u % 10)]).size ≤ 9223372036854775807 then (some (t144 ++ B [UInt8.ofNat (48 + u % 10)])) else (none)))) (fun k => ?_) ?_
    · simp only [taquinref01_digits.f, Option.bind_some]
      rw [dig_byte, tdiv_neg, w64 (by omega) (by omega)]
    · rw [Lib.decDigits]
      by_cases hu : u < 10
      · refine Ev.congr (fun k => if_pos (by omega)) ?_
        rw [dif_pos hu, Nat.mod_eq_of_lt hu]
        exact Ev.now _
      · refine Ev.congr (fun k => if_neg (by omega)) ?_
        rw [dif_neg hu]
        refine Ev.bind (ih (u / 10) (by omega) (by omega)) ?_
        have hl := Lib.decDigits_length (u / 10)
        have hn := nDigits_lt (u / 10) 18 (by omega)
        refine Ev.congr (fun k => if_pos (by rw [b_size, b_size, hl]; simp only [List.length_singleton]; omega)) ?_
        rw [b_append]
        exact Ev.now _
theorem dec_le (u : Nat) (h : u ≤ 9223372036854775808) : (Lib.decDigits u).length ≤ 19 := by
  rw [Lib.decDigits_length]; exact nDigits_lt u 18 (by omega)
theorem ref_int_ev {n : Int} (h : isInt n) : Ev (fun k => taquinref01_Int.f k n) (B (encInt n)) := by
  obtain ⟨h0, h1⟩ := h
  unfold taquinref01_Int.f encInt Lib.itoa
  by_cases hn : n < 0
  · refine Ev.congr (fun k => if_pos hn) ?_
    rw [if_pos hn]
    have hu : n = -((n.natAbs : Nat) : Int) := by omega
    have hd := digits_ev n.natAbs (by omega)
    rw [← hu] at hd
    have hl := dec_le n.natAbs (by omega)
    refine Ev.bind hd ?_
    refine Ev.congr (fun k => if_pos (by rw [b_size]; omega)) ?_
    refine Ev.congr (fun k => if_pos (by rw [b_size]; omega)) ?_
    rw [show (⟨#[45]⟩ : ByteArray) = B [45] from rfl, show (⟨#[59]⟩ : ByteArray) = B [59] from rfl, b_append, b_append]
    exact Ev.now _
  · refine Ev.congr (fun k => if_neg hn) ?_
    rw [if_neg hn]
    have hu : wrap64 (-n) = -((n.toNat : Nat) : Int) := by rw [w64 (by omega) (by omega)]; omega
    have hd := digits_ev n.toNat (by omega)
    rw [← hu] at hd
    have hl := dec_le n.toNat (by omega)
    refine Ev.bind hd ?_
    refine Ev.congr (fun k => if_pos (by rw [b_size]; omega)) ?_
    rw [show (⟨#[59]⟩ : ByteArray) = B [59] from rfl, b_append]
    exact Ev.now _
end Go.Proofs.YtphcihbffiggbaaGreatDoor.WireWRt
