/- WireWrites as a law over numbers and lists: no program in sight. -/
import Derived.Test.YtigdjhnpngjhjaaDoorWireSWi
import Derived.Test.YtigdjhnpngjhjaaDoorWireWRWi
import Derived.Test.YtigdjhnpngjhjaaDoorPWix5
namespace Go.Proofs.YtigdjhnpngjhjaaDoor.WireP1Wi
open Go.RowKit Go.Proofs.YtigdjhnpngjhjaaDoor.PWi Go.Proofs.YtigdjhnpngjhjaaDoorW.PrintWords Go.Proofs.YtigdjhnpngjhjaaDoorW.PrintLast Go.Proofs.YtigdjhnpngjhjaaDoorW.PrintMore Go.Proofs.YtigdjhnpngjhjaaDoor.WireMath Go.Proofs.YtigdjhnpngjhjaaDoor.WireWWi Go.Proofs.YtigdjhnpngjhjaaDoor.WireSWi
set_option linter.unusedVariables false
theorem writes (a0 a1 : Int) (s : ByteArray) (l3 : List Int) (l4 : List ByteArray) (h1 : isInt a1) (h3 : ∀ x ∈ l3, isInt x) : ∃ k, taquinlaw01_WireWrites.f k a0 a1 s l3 l4 = some true := by
  have hb : ∀ l : Bytes, (B l).toList = l := b_toList
  refine Ev.rounds (g := fun k => taquinlaw01_WireWrites.f k a0 a1 s l3 l4) ?_
  unfold taquinlaw01_WireWrites.f
  refine Ev.bind small_ev ?_
  obtain ⟨b, hf, hg⟩ := few_ev [(⟨a0, a1, s, l3, l4⟩ : S25)]
  refine Ev.bind hf ?_
  cases b with
  | false => exact Ev.congr (fun k => by simp only [Bool.false_eq_true, if_false]) (Ev.now _)
  | true =>
    obtain ⟨g1, g2, g3, g4⟩ := (hg rfl).2 _ (List.mem_singleton.2 rfl)
    simp only at g1 g2 g3 g4
    refine Ev.congr (fun k => if_pos rfl) ?_
    rw [num_eq h1, WireWWi.int_eq h1, text_eq (s := s) (by omega)]
    simp only [Option.bind_some]
    refine Ev.bind (ref_num_ev h1) ?_
    refine Ev.congr (fun k => if_pos rfl) ?_
    refine Ev.bind (ref_int_ev h1) ?_
    refine Ev.congr (fun k => if_pos rfl) ?_
    refine Ev.bind (ref_text_ev (s := s) (by omega)) ?_
    simp only [hb, beq_self_eq_true]
    refine Ev.step (f := fun k => (wire_Nums.f l3).bind fun t166 => ((taquinref01_Nums.f k l3).bind fun t167 => (if t166.toList = t167.toList then ((wire_Texts.f l4).bind fun t168 => ((taquinref01_Texts.f k l4).bind fun t169 => (some (t168.toList == t169.toList)))) else (none)))) (fun k => ?_) ?_
    · simp only [taquinlaw01_WireWrites.j0, if_true]
    · have hl3 := encNums_le l3 h3 (by omega)
      have hl4 := encTexts_le (wire_Texts.bs l4) 400 (bs_mem g4) (by omega) (by rw [bs_length]; omega)
      rw [bs_length] at hl4
      rw [nums_eq h3 (by omega), texts_eq (l := l4) (fun x hx => by have := g4 x hx; omega) (by omega)]
      simp only [Option.bind_some]
      refine Ev.bind (ref_nums_ev h3 (by omega)) ?_
      refine Ev.congr (fun k => if_pos rfl) ?_
      refine Ev.bind (ref_texts_ev (l := l4) (fun x hx => by have := g4 x hx; omega) (by omega)) ?_
      simp only [beq_self_eq_true]
      exact Ev.now _
end Go.Proofs.YtigdjhnpngjhjaaDoor.WireP1Wi
