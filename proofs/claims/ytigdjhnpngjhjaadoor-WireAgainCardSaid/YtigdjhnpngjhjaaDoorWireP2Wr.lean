/- WireAgain as a law over numbers and lists: no program in sight. -/
import Derived.Test.YtigdjhnpngjhjaaDoorWireSWr
import Derived.Test.YtigdjhnpngjhjaaDoorWireRWr
import Derived.Test.YtigdjhnpngjhjaaDoorPWrx3
namespace Go.Proofs.YtigdjhnpngjhjaaDoor.WireP2Wr
open Go.RowKit Go.Proofs.YtigdjhnpngjhjaaDoor.PWr Go.Proofs.YtigdjhnpngjhjaaDoorW.PrintWords Go.Proofs.YtigdjhnpngjhjaaDoorW.PrintLast Go.Proofs.YtigdjhnpngjhjaaDoorW.PrintMore Go.Proofs.YtigdjhnpngjhjaaDoor.WireMath Go.Proofs.YtigdjhnpngjhjaaDoor.WireWWr Go.Proofs.YtigdjhnpngjhjaaDoor.WireSWr
set_option linter.unusedVariables false
theorem j0_ev (s : Bytes) (hs : s.length ≤ 400) (t : Bytes) (r : Rd) (hok : Ok r) (hg : r.2 = false → s = t ++ r.1) : Ev (fun k => taquinlaw01_WireAgain.j0 k (B s) true (B t) (B r.1) r.2) true := by
  obtain ⟨u, b⟩ := r
  refine Ev.step (f := fun k => some true) (fun k => ?_) (Ev.now _)
  simp only [taquinlaw01_WireAgain.j0]
  cases b with
  | true =>
    obtain rfl : u = [] := hok rfl
    rw [WireRWr.left, Option.bind_some, if_pos (by rfl), WireRWr.done, Option.bind_some]
    rfl
  | false =>
    obtain rfl : s = t ++ u := hg rfl
    have hlen : (t ++ u).length = t.length + u.length := List.length_append
    have e1 : wrap64 (((B (t ++ u)).size : Int) - (u.length : Int)) = (t.length : Int) := by rw [b_size, hlen, w64 (by omega) (by omega)]; omega
    have e2 : mx 0 (mn (t.length : Int) ((B (t ++ u)).size : Int)) = (t.length : Int) := by
      rw [b_size, hlen]; unfold mx mn; split <;> split <;> omega
    have e3 : ((B (t ++ u)).extract 0 t.length) = B t := by
      apply ByteArray.ext; rw [ByteArray.data_extract]; simp
    have hsz : ((B (t ++ u)).size : Int) = (t.length : Int) + (u.length : Int) := by rw [b_size, hlen]; omega
    have fin : ((wire_Reader_Left.f (B u) false).bind fun bt179 => (if (true : Bool) = true then (if (wrap64 (((B (t ++ u)).size : Int) - bt179.1)) ≥ 0 then (if (wrap64 (((B (t ++ u)).size : Int) - bt179.1)) ≤ ((B (t ++ u)).size : Int) then (if 0 ≤ (mx 0 (mn (wrap64 (((B (t ++ u)).size : Int) - bt179.1)) ((B (t ++ u)).size : Int))) then (if (mx 0 (mn (wrap64 (((B (t ++ u)).size : Int) - bt179.1)) ((B (t ++ u)).size : Int))) ≤ ((B (t ++ u)).size : Int) then (some ((B t).toList == ((B (t ++ u)).extract 0 ((mx 0 (mn (wrap64 (((B (t ++ u)).size : Int) - bt179.1)) ((B (t ++ u)).size : Int))) : Int).toNat).toList)) else (none)) else (none)) else (none)) else (none)) else (none))) = some true := by
      rw [WireRWr.left, Option.bind_some]
      simp only [e1, e2]
      rw [if_pos trivial, if_pos (by omega), if_pos (by omega), if_pos (by omega), if_pos (by omega), Int.toNat_natCast, e3, beq_self_eq_true]
    rw [WireRWr.left, Option.bind_some]
    split
    · rename_i h0
      have hu : u = [] := List.eq_nil_of_length_eq_zero (by simpa using h0)
      rw [WireRWr.done, Option.bind_some]
      rw [if_pos (by rw [hu]; rfl)]
      exact fin
    · exact fin
theorem kind_some (a : Int) (s : ByteArray) (x : List Int) (y : List ByteArray) (n : Int) : ∃ c, taquinlaw01_kind.f a n s x y = some c := by
  unfold taquinlaw01_kind.f; split <;> exact ⟨_, rfl⟩
theorem again (s : ByteArray) (what : Int) : ∃ k, taquinlaw01_WireAgain.f k s what = some true := by
  refine Ev.rounds (g := fun k => taquinlaw01_WireAgain.f k s what) ?_
  obtain ⟨l, rfl⟩ : ∃ l : Bytes, s = B l := ⟨s.data.toList, (b_eta s).symm⟩
  unfold taquinlaw01_WireAgain.f
  refine Ev.bind small_ev ?_
  by_cases hs : ((B l).size : Int) > 400
  · exact Ev.congr (fun k => if_pos hs) (Ev.now _)
  refine Ev.congr (fun k => if_neg hs) ?_
  rw [b_size] at hs
  have hs' : l.length ≤ 400 := by omega
  have ok0 : Ok (l, false) := fun h => by cases h
  rw [show wire_Open.f (B l) = some (B l, false) from rfl]; simp only [Option.bind_some]
  obtain ⟨c, hc⟩ := kind_some what (⟨#[]⟩ : ByteArray) [] [] 0
  rw [hc]; simp only [Option.bind_some]
  by_cases h0 : c = 0
  · refine Ev.congr (fun k => if_pos h0) ?_
    rw [WireRWr.num]; simp only [Option.bind_some]; rw [num_eq (WireRWr.rNum_int _)]; simp only [Option.bind_some]
    refine j0_ev l hs' _ (rNum (l, false)).2 (rNum_ok ok0) (fun h => ?_)
    generalize hp : rNum (l, false) = p at h
    obtain ⟨n, t, b⟩ := p
    obtain rfl : b = false := h
    have := (rNum_good hp).1
    simpa using congrArg Prod.fst this
  refine Ev.congr (fun k => if_neg h0) ?_
  by_cases h1 : c = 1
  · refine Ev.congr (fun k => if_pos h1) ?_
    rw [WireRWr.int]; simp only [Option.bind_some]; rw [WireWWr.int_eq (WireRWr.rInt_int _)]; simp only [Option.bind_some]
    refine j0_ev l hs' _ (rInt (l, false)).2 (rInt_ok ok0) (fun h => ?_)
    generalize hp : rInt (l, false) = p at h
    obtain ⟨n, t, b⟩ := p
    obtain rfl : b = false := h
    have := (rInt_good hp).1
    simpa using congrArg Prod.fst this
  refine Ev.congr (fun k => if_neg h1) ?_
  by_cases h2 : c = 2
  · refine Ev.congr (fun k => if_pos h2) ?_
    have hl := WireRWr.rText_len (l, false)
    simp only at hl
    rw [WireRWr.text]; simp only [Option.bind_some]; rw [text_eq (by rw [b_size]; omega)]; simp only [Option.bind_some]
    refine j0_ev l hs' _ (rText (l, false)).2 (rText_ok ok0) (fun h => ?_)
    generalize hp : rText (l, false) = p at h
    obtain ⟨n, t, b⟩ := p
    obtain rfl : b = false := h
    have := (rText_good hp).1
    simpa using congrArg Prod.fst this
  refine Ev.congr (fun k => if_neg h2) ?_
  by_cases h3 : c = 3
  · refine Ev.congr (fun k => if_pos h3) ?_
    have hi := WireRWr.rNums_int (l, false)
    have hk := rNums_ok ok0
    have hf := @WireRWr.rNums_failed (l, false)
    rw [WireRWr.nums _ _ (by omega)]; simp only [Option.bind_some]
    generalize hp : rNums (l, false) = p at hi hk hf
    obtain ⟨n, t, b⟩ := p
    simp only at hi hk hf ⊢
    have hgood : b = false → l = encNums n ++ t := fun h => by
      subst h
      simpa using congrArg Prod.fst (rNums_good hp).1
    have hsz : (encNums n).length ≤ 140737488355328 := by
      cases b with
      | true => rw [hf rfl]; exact Nat.le_trans (encNums_le [] (by simp) (by simp)) (by simp)
      | false =>
        have := congrArg List.length (hgood rfl)
        rw [List.length_append] at this
        omega
    rw [nums_eq hi hsz]; simp only [Option.bind_some]
    exact j0_ev l hs' _ (t, b) hk hgood
  refine Ev.congr (fun k => if_neg h3) ?_
  have hi := WireRWr.rTexts_len (l, false)
  have hk := rTexts_ok ok0
  have hf := @WireRWr.rTexts_failed (l, false)
  rw [WireRWr.texts _ _ (by omega)]; simp only [Option.bind_some]
  generalize hp : rTexts (l, false) = p at hi hk hf
  obtain ⟨n, t, b⟩ := p
  simp only at hi hk hf ⊢
  have hgood : b = false → l = encTexts n ++ t := fun h => by
    subst h
    simpa using congrArg Prod.fst (rTexts_good hp).1
  have hsz : (encTexts n).length ≤ 140737488355328 := by
    cases b with
    | true => rw [hf rfl]; exact Nat.le_trans (encTexts_le [] 0 (by simp) (by simp) (by simp)) (by simp)
    | false =>
      have := congrArg List.length (hgood rfl)
      rw [List.length_append] at this
      omega
  rw [texts_eq (l := n.map B) (fun x hx => by obtain ⟨y, hy, rfl⟩ := List.mem_map.1 hx; rw [b_size]; have := hi y hy; omega) (by rw [WireRWr.bs_map]; exact hsz), WireRWr.bs_map]; simp only [Option.bind_some]
  exact j0_ev l hs' _ (t, b) hk hgood
end Go.Proofs.YtigdjhnpngjhjaaDoor.WireP2Wr
