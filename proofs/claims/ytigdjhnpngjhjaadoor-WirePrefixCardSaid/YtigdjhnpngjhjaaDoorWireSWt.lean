/- 'small' is true, and what 'few' says: over the print's functions, no program in sight. -/
import Derived.Test.YtigdjhnpngjhjaaDoorWireWWt
import Derived.Test.YtigdjhnpngjhjaaDoorPWtx2
import Derived.Test.YtigdjhnpngjhjaaDoorPWtx7
namespace Go.Proofs.YtigdjhnpngjhjaaDoor.WireSWt
open Go.RowKit Go.Proofs.YtigdjhnpngjhjaaDoor.PWt Go.Proofs.YtigdjhnpngjhjaaDoorW.PrintWords Go.Proofs.YtigdjhnpngjhjaaDoorW.PrintLast Go.Proofs.YtigdjhnpngjhjaaDoorW.PrintMore Go.Proofs.YtigdjhnpngjhjaaDoor.WireMath Go.Proofs.YtigdjhnpngjhjaaDoor.WireWWt
set_option linter.unusedVariables false
theorem itoa_one (n : Nat) (h : n < 10) : Lib.itoa (n : Int) = [UInt8.ofNat (48 + n)] := by rw [itoa_nat, Lib.decDigits_one h]
theorem itoa_neg_one (n : Nat) (h0 : 0 < n) (h : n < 10) : Lib.itoa (-(n : Int)) = [45, UInt8.ofNat (48 + n)] := by
  unfold Lib.itoa
  rw [if_pos (by omega), show (-(n : Int)).natAbs = n by omega, Lib.decDigits_one h]
theorem itoa_300 : Lib.itoa 300 = [51, 48, 48] := by
  rw [show (300 : Int) = ((300 : Nat) : Int) from rfl, itoa_nat, Lib.decDigits, dif_neg (by omega), Lib.decDigits, dif_neg (by omega), Lib.decDigits_one (by omega)]
  rfl
theorem e0 : encNum 0 = [48, 59] := by unfold encNum encInt; rw [if_neg (by omega), show (0 : Int) = ((0 : Nat) : Int) from rfl, itoa_one 0 (by omega)]; rfl
theorem e300 : encNum 300 = [51, 48, 48, 59] := by unfold encNum encInt; rw [if_neg (by omega), itoa_300]; rfl
theorem em1 : encNum (-1) = [] := by unfold encNum; rw [if_pos (by omega)]
theorem i1 : encInt 1 = [49, 59] := by unfold encInt; rw [show (1 : Int) = ((1 : Nat) : Int) from rfl, itoa_one 1 (by omega)]; rfl
theorem im1 : encInt (-1) = [45, 49, 59] := by unfold encInt; rw [show (-1 : Int) = (-((1 : Nat) : Int)) from rfl, itoa_neg_one 1 (by omega) (by omega)]; rfl
theorem im7 : encInt (-7) = [45, 55, 59] := by unfold encInt; rw [show (-7 : Int) = (-((7 : Nat) : Int)) from rfl, itoa_neg_one 7 (by omega) (by omega)]; rfl
theorem i7 : encInt 7 = [55, 59] := by unfold encInt; rw [show (7 : Int) = ((7 : Nat) : Int) from rfl, itoa_one 7 (by omega)]; rfl
theorem tab : encText [97, 44, 98] = [51, 58, 97, 44, 98, 44] := by
  unfold encText; rw [show (([97, 44, 98] : Bytes).length : Int) = ((3 : Nat) : Int) from rfl, itoa_one 3 (by omega)]; rfl
theorem n11 : encNums [1, -1] = [50, 91, 49, 59, 45, 49, 59, 93] := by
  unfold encNums; rw [show (([1, -1] : List Int).length : Int) = ((2 : Nat) : Int) from rfl, itoa_one 2 (by omega), List.map_cons, List.map_cons, i1, im1]; rfl
theorem t0 : encTexts [] = [48, 91, 93] := by
  unfold encTexts; rw [show (([] : List Bytes).length : Int) = ((0 : Nat) : Int) from rfl, itoa_one 0 (by omega)]; rfl
theorem r007 : rdNum 59 0 [48, 48, 55, 59] = none := by
  have h : scan 59 [48, 48, 55, 59] = some ([48, 48, 55], []) := by decide
  have h2 : Lib.atoiAll [48, 48, 55] = .ok 7 := by decide
  unfold rdNum
  rw [h]
  simp only [h2]
  rw [if_neg]
  rw [show (7 : Int) = ((7 : Nat) : Int) from rfl, itoa_one 7 (by omega)]
  decide
theorem small_ev : Ev (fun k => taquinlaw01_small.f k) true := by
  have hb : ∀ l : Bytes, (B l).toList = l := b_toList
  unfold taquinlaw01_small.f
  rw [num_eq (n := 0) ⟨by omega, by omega⟩, num_eq (n := 300) ⟨by omega, by omega⟩, num_eq (n := -1) ⟨by omega, by omega⟩, WireWWt.int_eq (n := -7) ⟨by omega, by omega⟩, WireWWt.int_eq (n := 7) ⟨by omega, by omega⟩]
  simp only [Option.bind_some, hb, e0, e300, em1, im7, i7, if_true, beq_self_eq_true]
  refine Ev.step (f := fun k => taquinlaw01_small.j1 k true true) (fun k => ?_) ?_
  · simp only [taquinlaw01_small.j0]
    rw [show (⟨#[97, 44, 98]⟩ : ByteArray) = B [97, 44, 98] from rfl, text_eq (by rw [b_size]; decide), nums_eq (l := [1, -1]) (by intro x hx; simp at hx; rcases hx with rfl | rfl <;> exact ⟨by omega, by omega⟩) (by rw [n11]; decide), texts_eq (l := []) (by simp) (by show (encTexts []).length ≤ _; rw [t0]; decide)]
    rw [show (B [97, 44, 98]).data.toList = [97, 44, 98] from rfl]
    simp only [Option.bind_some, hb, tab, n11, if_true]
    rw [show wire_Texts.bs [] = [] from rfl, t0]
    simp
  · refine Ev.step (f := fun k => some true) (fun k => ?_) (Ev.now _)
    simp only [taquinlaw01_small.j1]
    have h1 : wire_Reader_Num.f (⟨#[48, 48, 55, 59]⟩ : ByteArray) false = some (0, ⟨#[]⟩, true) := by
      unfold wire_Reader_Num.f wire_Reader_number.f wire_Reader_number.rd
      rw [if_pos (by omega), show (59 : Int).toNat.toUInt8 = 59 from rfl, number_none (by exact r007)]
      rfl
    rw [show wire_Open.f (⟨#[48, 48, 55, 59]⟩ : ByteArray) = some (⟨#[48, 48, 55, 59]⟩, false) from rfl, Option.bind_some, h1]
    rfl
/-- what is said of a value that 'few' lets by -/
def Good (v : S25) : Prop := v.f2.size ≤ 400 ∧ v.f3.length ≤ 400 ∧ v.f4.length ≤ 400 ∧ ∀ s ∈ v.f4, s.size ≤ 400
theorem few_l1 (l : List S25) (i : Nat) (hi : i < l.length) (next : ∀ x3 : Int, ∃ b, Ev (fun k => taquinlaw01_few.l0 k l x3 ((i + 1 : Nat) : Int)) b ∧ (b = true → ∀ j (hj : j < l.length), i + 1 ≤ j → Good l[j])) (hl : l.length ≤ 1000000) (ht : l[i].f4.length ≤ 400) :
    ∀ (d : Nat) (j : Nat) (x3 : Int), l[i].f4.length - j = d → j ≤ l[i].f4.length → ∃ b, Ev (fun k => taquinlaw01_few.l1 k l x3 (i : Int) (j : Int)) b ∧ (b = true → (∀ q (hq : q < l[i].f4.length), j ≤ q → l[i].f4[q].size ≤ 400) ∧ ∀ j' (hj : j' < l.length), i + 1 ≤ j' → Good l[j']) := by
  have hrd : rd_T25 l (i : Int) = l[i] := by unfold rd_T25; simp [List.getD, hi]
  intro d
  induction d with
  | zero =>
    intro j x3 hd hj
    obtain ⟨b, hb, hg⟩ := next x3
    refine ⟨b, Ev.step (f := fun k => taquinlaw01_few.l0 k l x3 ((i + 1 : Nat) : Int)) (fun k => ?_) hb, fun h => ⟨fun q hq hjq => by omega, hg h⟩⟩
    simp only [taquinlaw01_few.l1]
    rw [if_pos (by omega), if_pos (by omega), hrd, if_neg (by omega), w64 (x := (i : Int) + 1) (by omega) (by omega)]
    rfl
  | succ d ih =>
    intro j x3 hd hj
    have hlt : j < l[i].f4.length := by omega
    have hr2 : rdOf ByteArray.empty l[i].f4 (j : Int) = l[i].f4[j] := by unfold rdOf; simp [List.getD, hlt]
    by_cases hs : (l[i].f4[j].size : Int) > 400
    · refine ⟨false, Ev.step (f := fun k => some false) (fun k => ?_) (Ev.now _), fun h => by cases h⟩
      simp only [taquinlaw01_few.l1]
      rw [if_pos (by omega), if_pos (by omega), hrd, if_pos (by omega), if_pos (by omega), hr2, if_pos hs]
    · obtain ⟨b, hb, hg⟩ := ih (j + 1) (wrap64 (x3 + (l[i].f4[j].size : Int))) (by omega) (by omega)
      refine ⟨b, Ev.step (f := fun k => taquinlaw01_few.l1 k l (wrap64 (x3 + (l[i].f4[j].size : Int))) (i : Int) ((j + 1 : Nat) : Int)) (fun k => ?_) hb, fun h => ⟨fun q hq hjq => ?_, (hg h).2⟩⟩
      · simp only [taquinlaw01_few.l1]
        rw [if_pos (by omega), if_pos (by omega), hrd, if_pos (by omega), if_pos (by omega), hr2, if_neg hs, w64 (x := (j : Int) + 1) (by omega) (by omega)]
        rfl
      · by_cases hq2 : q = j
        · subst hq2; omega
        · exact (hg h).1 q hq (by omega)
theorem few_l0 (l : List S25) (hl : l.length ≤ 1000000) : ∀ (d : Nat) (i : Nat) (x3 : Int), l.length - i = d → i ≤ l.length → ∃ b, Ev (fun k => taquinlaw01_few.l0 k l x3 (i : Int)) b ∧ (b = true → ∀ j (hj : j < l.length), i ≤ j → Good l[j]) := by
  intro d
  induction d with
  | zero =>
    intro i x3 hd hi
    refine ⟨decide (x3 ≤ 400), Ev.step (f := fun k => some (decide (x3 ≤ 400))) (fun k => ?_) (Ev.now _), fun h j hj hij => by omega⟩
    simp only [taquinlaw01_few.l0]
    rw [if_neg (by omega)]
  | succ d ih =>
    intro i x3 hd hi
    have hlt : i < l.length := by omega
    have hrd : rd_T25 l (i : Int) = l[i] := by unfold rd_T25; simp [List.getD, hlt]
    have j1 : ∀ c : Bool, (c = false → (l[i].f2.size ≤ 400 ∧ l[i].f3.length ≤ 400 ∧ l[i].f4.length ≤ 400)) → ∃ b, Ev (fun k => taquinlaw01_few.j1 k l x3 (i : Int) c) b ∧ (b = true → ∀ j (hj : j < l.length), i ≤ j → Good l[j]) := by
      intro c hc
      cases c with
      | true =>
        refine ⟨false, Ev.step (f := fun k => some false) (fun k => ?_) (Ev.now _), fun h => by cases h⟩
        simp only [taquinlaw01_few.j1, if_true]
      | false =>
        obtain ⟨g1, g2, g3⟩ := hc rfl
        obtain ⟨b, hb, hg⟩ := few_l1 l i hlt (fun y => ih (i + 1) y (by omega) (by omega)) hl g3 _ 0 (wrap64 (wrap64 (wrap64 (x3 + (l[i].f2.size : Int)) + (l[i].f3.length : Int)) + (l[i].f4.length : Int))) rfl (by omega)
        refine ⟨b, Ev.step (f := fun k => taquinlaw01_few.l1 k l (wrap64 (wrap64 (wrap64 (x3 + (l[i].f2.size : Int)) + (l[i].f3.length : Int)) + (l[i].f4.length : Int))) (i : Int) ((0 : Nat) : Int)) (fun k => ?_) hb, fun h j hj hij => ?_⟩
        · simp only [taquinlaw01_few.j1, Bool.false_eq_true, if_false]
          rw [if_pos (by omega), if_pos (by omega), hrd]
          rfl
        · by_cases hji : j = i
          · subst hji
            refine ⟨g1, g2, g3, fun s hs => ?_⟩
            obtain ⟨q, hq, rfl⟩ := List.getElem_of_mem hs
            exact (hg h).1 q hq (by omega)
          · exact (hg h).2 j hj (by omega)
    by_cases h3 : (l[i].f3.length : Int) > 400
    · obtain ⟨b, hb, hg⟩ := j1 true (by simp)
      refine ⟨b, Ev.step (f := fun k => taquinlaw01_few.j1 k l x3 (i : Int) true) (fun k => ?_) hb, hg⟩
      simp only [taquinlaw01_few.l0]
      rw [if_pos (by omega), if_pos (by omega), hrd, if_pos h3]
    · by_cases h4 : (l[i].f4.length : Int) > 400
      · obtain ⟨b, hb, hg⟩ := j1 true (by simp)
        refine ⟨b, Ev.step (f := fun k => taquinlaw01_few.j1 k l x3 (i : Int) true) (fun k => ?_) hb, hg⟩
        simp only [taquinlaw01_few.l0]
        rw [if_pos (by omega), if_pos (by omega), hrd, if_neg h3, if_pos h4]
      · obtain ⟨b, hb, hg⟩ := j1 (decide ((l[i].f2.size : Int) > 400)) (fun h => by
          have := of_decide_eq_false h
          exact ⟨by omega, by omega, by omega⟩)
        refine ⟨b, Ev.step (f := fun k => taquinlaw01_few.j1 k l x3 (i : Int) (decide ((l[i].f2.size : Int) > 400))) (fun k => ?_) hb, hg⟩
        simp only [taquinlaw01_few.l0]
        rw [if_pos (by omega), if_pos (by omega), hrd, if_neg h3, if_neg h4]
theorem few_ev (l : List S25) : ∃ b, Ev (fun k => taquinlaw01_few.f k l) b ∧ (b = true → l.length ≤ 20 ∧ ∀ v ∈ l, Good v) := by
  unfold taquinlaw01_few.f
  by_cases hl : (l.length : Int) > 20
  · exact ⟨false, Ev.congr (fun k => if_pos hl) (Ev.now _), fun h => by cases h⟩
  · obtain ⟨b, hb, hg⟩ := few_l0 l (by omega) _ 0 0 rfl (by omega)
    refine ⟨b, Ev.congr (fun k => if_neg hl) hb, fun h => ⟨by omega, fun v hv => ?_⟩⟩
    obtain ⟨j, hj, rfl⟩ := List.getElem_of_mem hv
    exact hg h j hj (by omega)
end Go.Proofs.YtigdjhnpngjhjaaDoor.WireSWt
