/- Values: what 'write' writes, and that 'equal' reads it back: over the print's functions, no program in sight. -/
import Derived.Test.YtigdjhnpngjhjaaDoorWireSWt
import Derived.Test.YtigdjhnpngjhjaaDoorWireRWt
import Derived.Test.YtigdjhnpngjhjaaDoorPWtx7
import Derived.Test.YtigdjhnpngjhjaaDoorPWtx8
import Derived.Test.YtigdjhnpngjhjaaDoorPWtx5
namespace Go.Proofs.YtigdjhnpngjhjaaDoor.WireVWt
open Go.RowKit Go.Proofs.YtigdjhnpngjhjaaDoor.PWt Go.Proofs.YtigdjhnpngjhjaaDoorW.PrintWords Go.Proofs.YtigdjhnpngjhjaaDoorW.PrintLast Go.Proofs.YtigdjhnpngjhjaaDoorW.PrintMore Go.Proofs.YtigdjhnpngjhjaaDoor.WireMath Go.Proofs.YtigdjhnpngjhjaaDoor.WireWWt Go.Proofs.YtigdjhnpngjhjaaDoor.WireSWt
set_option linter.unusedVariables false
def kd (a : Int) : Int := if (Int.tmod a 5) < 0 then wrap64 ((Int.tmod a 5) + 5) else Int.tmod a 5
theorem kind_eq (a b : Int) (s : ByteArray) (x : List Int) (y : List ByteArray) : taquinlaw01_kind.f a b s x y = some (kd a) := by
  unfold taquinlaw01_kind.f kd; split <;> rfl
def nu (n : Int) : Int := if n < 0 then -(n + 1) else n
theorem number_eq {n : Int} (h : isInt n) : taquinlaw01_number.f n = some (nu n) := by
  unfold taquinlaw01_number.f nu
  have := h.1; have := h.2
  split
  · rw [w64 (x := n + 1) (by omega) (by omega), w64 (by omega) (by omega)]
  · rfl
theorem nu_int {n : Int} (h : isInt n) : isInt (nu n) ∧ 0 ≤ nu n := by
  have := h.1; have := h.2
  unfold nu isInt; split <;> omega
def encV (v : S25) : Bytes := if kd v.f0 = 0 then encNum (nu v.f1) else if kd v.f0 = 1 then encInt v.f1 else if kd v.f0 = 2 then encText v.f2.data.toList else if kd v.f0 = 3 then encNums v.f3 else encTexts (wire_Texts.bs v.f4)
/-- what an argument's value is -/
def Is (v : S25) : Prop := isInt v.f1 ∧ ∀ x ∈ v.f3, isInt x
theorem nums_le {v : S25} (h : Is v) (hg : WireSWt.Good v) : (encNums v.f3).length ≤ 200000 := by
  have := encNums_le v.f3 h.2 (by have := hg.2.1; omega)
  have := hg.2.1
  omega
theorem texts_le {v : S25} (hg : WireSWt.Good v) : (encTexts (wire_Texts.bs v.f4)).length ≤ 200000 := by
  have h1 := encTexts_le (wire_Texts.bs v.f4) 400 (bs_mem hg.2.2.2) (by omega) (by rw [bs_length]; have := hg.2.2.1; omega)
  rw [bs_length] at h1
  have := hg.2.2.1
  omega
theorem encV_le {v : S25} (h : Is v) (hg : WireSWt.Good v) : (encV v).length ≤ 200000 := by
  unfold encV
  split
  · unfold encNum; split
    · exact Nat.zero_le _
    · have := encInt_le (nu_int h.1).1; omega
  · split
    · have := encInt_le h.1; omega
    · split
      · have hs := hg.1
        have := encText_le v.f2.data.toList (by rw [b_length]; omega)
        rw [b_length] at this; omega
      · split
        · exact nums_le h hg
        · exact texts_le hg
theorem write_eq {v : S25} (h : Is v) (hg : WireSWt.Good v) : taquinlaw01_write.f v.f0 v.f1 v.f2 v.f3 v.f4 = some (B (encV v)) := by
  have hs := hg.1
  have hn := nums_le h hg
  have ht := texts_le hg
  unfold taquinlaw01_write.f encV
  rw [kind_eq, Option.bind_some]
  split
  · rw [number_eq h.1, Option.bind_some, num_eq (nu_int h.1).1]; rfl
  · split
    · rw [WireWWt.int_eq h.1]; rfl
    · split
      · rw [text_eq (by omega)]; rfl
      · split
        · rw [nums_eq h.2 (by omega)]; rfl
        · rw [texts_eq (fun x hx => by have := hg.2.2.2 x hx; omega) (by omega)]; rfl
theorem same_nums (l : List Int) (hl : l.length ≤ 1000000) : Ev (fun k => taquinref01_SameNums.f k l l) true := by
  have go : ∀ (d i : Nat), l.length - i = d → i ≤ l.length → Ev (fun k => taquinref01_SameNums.l0 k l l (i : Int)) true := by
    intro d
    induction d with
    | zero =>
      intro i hd hi
      refine Ev.step (f := fun k => some true) (fun k => ?_) (Ev.now _)
      simp only [taquinref01_SameNums.l0]
      rw [if_neg (by omega)]
    | succ d ih =>
      intro i hd hi
      refine Ev.step (f := fun k => taquinref01_SameNums.l0 k l l ((i + 1 : Nat) : Int)) (fun k => ?_) (ih (i + 1) (by omega) (by omega))
      simp only [taquinref01_SameNums.l0]
      rw [if_pos (by omega), if_pos (by omega), if_pos (by omega), if_pos trivial, w64 (x := (i : Int) + 1) (by omega) (by omega)]
      rfl
  unfold taquinref01_SameNums.f
  refine Ev.congr (fun k => if_pos rfl) ?_
  exact go l.length 0 (by omega) (by omega)
theorem same_texts (l : List ByteArray) (hl : l.length ≤ 1000000) : Ev (fun k => taquinref01_SameTexts.f k l l) true := by
  have go : ∀ (d i : Nat), l.length - i = d → i ≤ l.length → Ev (fun k => taquinref01_SameTexts.l0 k l l (i : Int)) true := by
    intro d
    induction d with
    | zero =>
      intro i hd hi
      refine Ev.step (f := fun k => some true) (fun k => ?_) (Ev.now _)
      simp only [taquinref01_SameTexts.l0]
      rw [if_neg (by omega)]
    | succ d ih =>
      intro i hd hi
      refine Ev.step (f := fun k => taquinref01_SameTexts.l0 k l l ((i + 1 : Nat) : Int)) (fun k => ?_) (ih (i + 1) (by omega) (by omega))
      simp only [taquinref01_SameTexts.l0]
      rw [if_pos (by omega), if_pos (by omega), if_pos (by omega), if_pos trivial, w64 (x := (i : Int) + 1) (by omega) (by omega)]
      rfl
  unfold taquinref01_SameTexts.f
  refine Ev.congr (fun k => if_pos rfl) ?_
  exact go l.length 0 (by omega) (by omega)
theorem map_bs (l : List ByteArray) : (wire_Texts.bs l).map B = l := by
  unfold wire_Texts.bs
  rw [List.map_map]
  conv => rhs; rw [← List.map_id l]
  exact List.map_congr_left fun a _ => b_eta a
theorem equal_ev {v : S25} (h : Is v) (hg : WireSWt.Good v) (t : Bytes) (ht : t.length ≤ 5000000000) : Ev (fun k => taquinlaw01_equal.f k (B (encV v ++ t)) false v.f0 v.f1 v.f2 v.f3 v.f4) (true, B t, false) := by
  have hs := hg.1
  have hle := encV_le h hg
  have hlen : (encV v ++ t).length ≤ 6000000000 := by rw [List.length_append]; omega
  unfold taquinlaw01_equal.f
  rw [kind_eq]
  simp only [Option.bind_some]
  by_cases h0 : kd v.f0 = 0
  · refine Ev.congr (fun k => if_pos h0) ?_
    have e : encV v = encNum (nu v.f1) := by unfold encV; rw [if_pos h0]
    rw [e, WireRWt.num, rNum_enc (nu_int h.1).2 (nu_int h.1).1, number_eq h.1]
    simp only [Option.bind_some, beq_self_eq_true]
    exact Ev.now _
  refine Ev.congr (fun k => if_neg h0) ?_
  by_cases h1 : kd v.f0 = 1
  · refine Ev.congr (fun k => if_pos h1) ?_
    have e : encV v = encInt v.f1 := by unfold encV; rw [if_neg h0, if_pos h1]
    rw [e, WireRWt.int, rInt_enc h.1]
    simp only [Option.bind_some, beq_self_eq_true]
    exact Ev.now _
  refine Ev.congr (fun k => if_neg h1) ?_
  by_cases h2 : kd v.f0 = 2
  · refine Ev.congr (fun k => if_pos h2) ?_
    have e : encV v = encText v.f2.data.toList := by unfold encV; rw [if_neg h0, if_neg h1, if_pos h2]
    rw [e, WireRWt.text, rText_enc (by rw [b_length]; omega) _ _ rfl]
    simp only [Option.bind_some]
    rw [b_eta]
    simp only [beq_self_eq_true]
    exact Ev.now _
  refine Ev.congr (fun k => if_neg h2) ?_
  by_cases h3 : kd v.f0 = 3
  · refine Ev.congr (fun k => if_pos h3) ?_
    have e : encV v = encNums v.f3 := by unfold encV; rw [if_neg h0, if_neg h1, if_neg h2, if_pos h3]
    rw [e] at hlen ⊢
    rw [WireRWt.nums _ _ (by omega), rNums_enc (by have := hg.2.1; omega) h.2]
    simp only [Option.bind_some]
    exact Ev.bind (same_nums v.f3 (by have := hg.2.1; omega)) (Ev.now _)
  refine Ev.congr (fun k => if_neg h3) ?_
  have e : encV v = encTexts (wire_Texts.bs v.f4) := by unfold encV; rw [if_neg h0, if_neg h1, if_neg h2, if_neg h3]
  rw [e] at hlen ⊢
  rw [WireRWt.texts _ _ (by omega), rTexts_enc (by rw [bs_length]; have := hg.2.2.1; omega) (bs_mem (c := 9223372036854775807) fun x hx => by have := hg.2.2.2 x hx; omega)]
  simp only [Option.bind_some, map_bs]
  exact Ev.bind (same_texts v.f4 (by have := hg.2.2.1; omega)) (Ev.now _)
end Go.Proofs.YtigdjhnpngjhjaaDoor.WireVWt
