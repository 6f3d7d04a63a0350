/- What the reference's writers give: over the print's functions, no program in sight. -/
import Derived.Test.YtphcihbffiggbaaGreatDoorWireWIRt
import Derived.Test.YtphcihbffiggbaaGreatDoorPRtx11
namespace Go.Proofs.YtphcihbffiggbaaGreatDoor.WireWRt
open Go.RowKit Go.Proofs.YtphcihbffiggbaaGreatDoor.PRt Go.Proofs.YtphcihbffiggbaaGreatDoorW.PrintWords Go.Proofs.YtphcihbffiggbaaGreatDoorW.PrintLast Go.Proofs.YtphcihbffiggbaaGreatDoorW.PrintMore Go.Proofs.YtphcihbffiggbaaGreatDoor.WireMath Go.Proofs.YtphcihbffiggbaaGreatDoor.WireB
set_option linter.unusedVariables false
theorem ref_nums_l0 (l : List Int) (h : ∀ x ∈ l, isInt x) (hl : l.length ≤ 1000000) : ∀ (d : Nat) (i : Nat) (x : Bytes), l.length - i = d → i ≤ l.length → x.length ≤ 1000 + i * 21 →
    Ev (fun k => taquinref01_Nums.l0 k l (B x) (i : Int)) (B (x ++ ((l.drop i).map encInt).flatten ++ [93])) := by
  intro d
  induction d with
  | zero =>
    intro i x hd hi hx
    refine Ev.step (f := fun k => some (B (x ++ ((l.drop i).map encInt).flatten ++ [93]))) (fun k => ?_) (Ev.now _)
    simp only [taquinref01_Nums.l0]
    rw [if_neg (by omega), if_pos (by rw [b_size]; omega), show (⟨#[93]⟩ : ByteArray) = B [93] from rfl, b_append, List.drop_eq_nil_of_le (by omega)]
    simp
  | succ d ih =>
    intro i x hd hi hx
    have hlt : i < l.length := by omega
    have hm : isInt l[i] := h _ (List.getElem_mem hlt)
    have hrd : rd l (i : Int) = l[i] := by unfold rd; simp [List.getD, hlt]
    have hle := encInt_le hm
    refine Ev.step (f := fun k => (taquinref01_Int.f k l[i]).bind fun t150 => (if (B x).size + t150.size ≤ 9223372036854775807 then (taquinref01_Nums.l0 k l (B x ++ t150) ((i + 1 : Nat) : Int)) else (none))) (fun k => ?_) ?_
    · simp only [taquinref01_Nums.l0]
      rw [if_pos (by omega), if_pos (by omega), hrd, w64 (x := (i : Int) + 1) (by omega) (by omega)]
      rfl
    · refine Ev.bind (ref_int_ev hm) ?_
      refine Ev.congr (fun k => if_pos (by rw [b_size, b_size]; omega)) ?_
      rw [b_append]
      have := ih (i + 1) (x ++ encInt l[i]) (by omega) (by omega) (by rw [List.length_append]; omega)
      rw [List.drop_eq_getElem_cons hlt, List.map_cons, List.flatten_cons]
      simpa [List.append_assoc] using this
theorem ref_nums_ev {l : List Int} (h : ∀ x ∈ l, isInt x) (hl : l.length ≤ 1000000) : Ev (fun k => taquinref01_Nums.f k l) (B (encNums l)) := by
  unfold taquinref01_Nums.f
  have hu : wrap64 (-(l.length : Int)) = -(l.length : Int) := w64 (by omega) (by omega)
  rw [hu]
  have hd := dec_le l.length (by omega)
  refine Ev.bind (digits_ev l.length (by omega)) ?_
  refine Ev.congr (fun k => if_pos (by rw [b_size]; omega)) ?_
  rw [show (⟨#[91]⟩ : ByteArray) = B [91] from rfl, b_append]
  have := ref_nums_l0 l h hl (l.length - 0) 0 (Lib.decDigits l.length ++ [91]) rfl (by omega) (by rw [List.length_append]; simp only [List.length_singleton]; omega)
  simpa [encNums, itoa_nat, List.append_assoc] using this
end Go.Proofs.YtphcihbffiggbaaGreatDoor.WireWRt
