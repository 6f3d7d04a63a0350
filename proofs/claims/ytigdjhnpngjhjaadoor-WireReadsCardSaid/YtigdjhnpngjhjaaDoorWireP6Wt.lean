/- WireReads as a law over numbers and lists: no program in sight. -/
import Derived.Test.YtigdjhnpngjhjaaDoorWireVWt
import Derived.Test.YtigdjhnpngjhjaaDoorWireQWt
import Derived.Test.YtigdjhnpngjhjaaDoorPWtx6
namespace Go.Proofs.YtigdjhnpngjhjaaDoor.WireP6Wt
open Go.RowKit Go.Proofs.YtigdjhnpngjhjaaDoor.PWt Go.Proofs.YtigdjhnpngjhjaaDoorW.PrintWords Go.Proofs.YtigdjhnpngjhjaaDoorW.PrintLast Go.Proofs.YtigdjhnpngjhjaaDoorW.PrintMore Go.Proofs.YtigdjhnpngjhjaaDoor.WireMath Go.Proofs.YtigdjhnpngjhjaaDoor.WireWWt Go.Proofs.YtigdjhnpngjhjaaDoor.WireSWt Go.Proofs.YtigdjhnpngjhjaaDoor.WireVWt
set_option linter.unusedVariables false
theorem flat_ge {α : Type} (f : α → Bytes) (l : List α) (h : ∀ a ∈ l, 1 ≤ (f a).length) : l.length ≤ ((l.map f).flatten).length := by
  induction l with
  | nil => simp
  | cons a l ih =>
    have h1 := h a List.mem_cons_self
    have h2 := ih (fun x hx => h x (List.mem_cons_of_mem _ hx))
    simp only [List.map_cons, List.flatten_cons, List.length_append, List.length_cons]
    omega
theorem nums_count (l : Bytes) (b : Bool) (hok : Ok (l, b)) : (rNums (l, b)).1.length ≤ l.length := by
  have hf := @WireRWt.rNums_failed (l, b)
  generalize hp : rNums (l, b) = p at hf
  obtain ⟨xs, t, c⟩ := p
  cases c with
  | true => rw [hf rfl]; exact Nat.zero_le _
  | false =>
    have := congrArg Prod.fst (rNums_good hp).1
    simp only at this
    rw [this]
    have h2 := flat_ge encInt xs (fun a _ => by simp [encInt])
    simp only [encNums, List.length_append, List.length_cons]
    omega
theorem texts_count (l : Bytes) (b : Bool) (hok : Ok (l, b)) : (rTexts (l, b)).1.length ≤ l.length := by
  have hf := @WireRWt.rTexts_failed (l, b)
  generalize hp : rTexts (l, b) = p at hf
  obtain ⟨xs, t, c⟩ := p
  cases c with
  | true => rw [hf rfl]; exact Nat.zero_le _
  | false =>
    have := congrArg Prod.fst (rTexts_good hp).1
    simp only at this
    rw [this]
    have h2 := flat_ge encText xs (fun a _ => by simp only [encText, List.length_append, List.length_cons]; omega)
    simp only [encTexts, List.length_append, List.length_cons]
    omega
theorem nums_le (r : Rd) : (rNums r).2.1.length ≤ r.1.length := by
  unfold rNums rList
  simp only
  refine Nat.le_trans (close_le 93 _).1 (Nat.le_trans ?_ (number_le 91 (by decide) 0 r).1)
  generalize (number 91 0 r).2 = q
  generalize (number 91 0 r).1.toNat = n
  induction n generalizing q with
  | zero => exact Nat.le_refl _
  | succ n ih =>
    unfold rMany
    split
    · exact Nat.le_refl _
    · exact Nat.le_trans (ih _) (number_le 59 (by decide) _ q).1
theorem texts_le2 (r : Rd) : (rTexts r).2.1.length ≤ r.1.length := by
  unfold rTexts rList
  simp only
  refine Nat.le_trans (close_le 93 _).1 (Nat.le_trans ?_ (number_le 91 (by decide) 0 r).1)
  generalize (number 91 0 r).2 = q
  generalize (number 91 0 r).1.toNat = n
  induction n generalizing q with
  | zero => exact Nat.le_refl _
  | succ n ih =>
    unfold rMany
    split
    · exact Nat.le_refl _
    · exact Nat.le_trans (ih _) (rText_le q).1
theorem j2_ev (calls : List Int) (i : Nat) (hi : i < 1000000) (l : Bytes) (b : Bool) (h : Ev (fun k => taquinlaw01_WireReads.l0 k calls true ((i + 1 : Nat) : Int) (B l) b (B l) b) true) :
    Ev (fun k => taquinlaw01_WireReads.j2 k calls true (i : Int) true (B l) b (B l) b) true := by
  refine Ev.step (fun k => ?_) h
  simp only [taquinlaw01_WireReads.j2, if_true]
  rw [WireRWt.left, Option.bind_some, WireQWt.left, Option.bind_some, if_pos rfl, WireRWt.done, Option.bind_some, WireQWt.done, Option.bind_some, bne_self_eq_false, if_neg (by simp), w64 (x := (i : Int) + 1) (by omega) (by omega)]
  rfl
theorem l0_ev (calls : List Int) (hc : calls.length ≤ 20) : ∀ (d i : Nat) (l : Bytes) (b : Bool), calls.length - i = d → i ≤ calls.length → Ok (l, b) → l.length ≤ 400 →
    Ev (fun k => taquinlaw01_WireReads.l0 k calls true (i : Int) (B l) b (B l) b) true := by
  intro d
  induction d with
  | zero =>
    intro i l b hd hi hok hl
    refine Ev.step (f := fun k => some true) (fun k => ?_) (Ev.now _)
    simp only [taquinlaw01_WireReads.l0, if_true]
    rw [if_neg (by omega)]
    rw [show wire_Reader_Rest.f (B l) b = some (B l, B [], b) from rfl, Option.bind_some, show taquinref01_Reader_Tail.f (B l) b = some (B l, B [], b) from rfl, Option.bind_some, if_pos rfl,
      WireRWt.left, Option.bind_some, WireQWt.left, Option.bind_some, if_pos rfl, WireRWt.done, Option.bind_some, WireQWt.done, Option.bind_some, beq_self_eq_true]
  | succ d ih =>
    intro i l b hd hi hok hl
    have hlt : i < calls.length := by omega
    refine Ev.step (f := fun k => (if kd (rd calls (i : Int)) = 0 then ((wire_Reader_Num.f (B l) b).bind fun bt225 => ((taquinref01_Reader_Num.f k (B l) b).bind fun bt228 => (taquinlaw01_WireReads.j2 k calls true (i : Int) (bt225.1 == bt228.1) bt225.2.1 bt225.2.2 bt228.2.1 bt228.2.2))) else (if kd (rd calls (i : Int)) = 1 then ((wire_Reader_Int.f (B l) b).bind fun bt231 => ((taquinref01_Reader_Int.f k (B l) b).bind fun bt234 => (taquinlaw01_WireReads.j2 k calls true (i : Int) (bt231.1 == bt234.1) bt231.2.1 bt231.2.2 bt234.2.1 bt234.2.2))) else (if kd (rd calls (i : Int)) = 2 then ((wire_Reader_Text.f (B l) b).bind fun bt237 => ((taquinref01_Reader_Text.f k (B l) b).bind fun bt240 => (taquinlaw01_WireReads.j2 k calls true (i : Int) (bt237.1.toList == bt240.1.toList) bt237.2.1 bt237.2.2 bt240.2.1 bt240.2.2))) else (if kd (rd calls (i : Int)) = 3 then ((wire_Reader_Nums.f (B l) b).bind fun bt243 => ((taquinref01_Reader_Nums.f k (B l) b).bind fun bt248 => ((taquinref01_SameNums.f k bt243.1 bt248.1).bind fun t253 => (taquinlaw01_WireReads.j2 k calls true (i : Int) t253 bt243.2.1 bt243.2.2 bt248.2.1 bt248.2.2)))) else ((wire_Reader_Texts.f (B l) b).bind fun bt254 => ((taquinref01_Reader_Texts.f k (B l) b).bind fun bt259 => ((taquinref01_SameTexts.f k bt254.1 bt259.1).bind fun t264 => (taquinlaw01_WireReads.j2 k calls true (i : Int) t264 bt254.2.1 bt254.2.2 bt259.2.1 bt259.2.2))))))))) (fun k => ?_) ?_
    · simp only [taquinlaw01_WireReads.l0]
      rw [if_pos (by omega), if_pos (by omega), kind_eq, Option.bind_some]
    have go : ∀ r : Rd, Ok r → r.1.length ≤ 400 → Ev (fun k => taquinlaw01_WireReads.j2 k calls true (i : Int) true (B r.1) r.2 (B r.1) r.2) true := fun r ho hr => j2_ev calls i (by omega) r.1 r.2 (ih (i + 1) r.1 r.2 (by omega) (by omega) ho hr)
    by_cases h0 : kd (rd calls (i : Int)) = 0
    · refine Ev.congr (fun k => if_pos h0) ?_
      rw [WireRWt.num]
      simp only [Option.bind_some]
      refine Ev.bind (WireQWt.num l b (by omega)) ?_
      simp only [WireQWt.out, beq_self_eq_true]
      exact go _ (rNum_ok hok) (Nat.le_trans (number_le 59 (by decide) 0 (l, b)).1 hl)
    refine Ev.congr (fun k => if_neg h0) ?_
    by_cases h1 : kd (rd calls (i : Int)) = 1
    · refine Ev.congr (fun k => if_pos h1) ?_
      rw [WireRWt.int]
      simp only [Option.bind_some]
      refine Ev.bind (WireQWt.int l b (by omega)) ?_
      simp only [WireQWt.out, beq_self_eq_true]
      exact go _ (rInt_ok hok) (Nat.le_trans (number_le 59 (by decide) _ (l, b)).1 hl)
    refine Ev.congr (fun k => if_neg h1) ?_
    by_cases h2 : kd (rd calls (i : Int)) = 2
    · refine Ev.congr (fun k => if_pos h2) ?_
      rw [WireRWt.text]
      simp only [Option.bind_some]
      refine Ev.bind (WireQWt.text l b (by omega) hok) ?_
      simp only [beq_self_eq_true]
      exact go _ (rText_ok hok) (Nat.le_trans (rText_le (l, b)).1 hl)
    refine Ev.congr (fun k => if_neg h2) ?_
    by_cases h3 : kd (rd calls (i : Int)) = 3
    · refine Ev.congr (fun k => if_pos h3) ?_
      rw [WireRWt.nums _ _ (by omega)]
      simp only [Option.bind_some]
      refine Ev.bind (WireQWt.nums l b (by omega) hok) ?_
      simp only [WireQWt.out]
      have := nums_count l b hok
      refine Ev.bind (same_nums _ (by omega)) ?_
      exact go _ (rNums_ok hok) (Nat.le_trans (nums_le (l, b)) hl)
    refine Ev.congr (fun k => if_neg h3) ?_
    rw [WireRWt.texts _ _ (by omega)]
    simp only [Option.bind_some]
    refine Ev.bind (WireQWt.texts l b (by omega) hok) ?_
    have := texts_count l b hok
    refine Ev.bind (same_texts _ (by rw [List.length_map]; omega)) ?_
    exact go _ (rTexts_ok hok) (Nat.le_trans (texts_le2 (l, b)) hl)
theorem reads (s : ByteArray) (calls : List Int) : ∃ k, taquinlaw01_WireReads.f k s calls = some true := by
  refine Ev.rounds (g := fun k => taquinlaw01_WireReads.f k s calls) ?_
  obtain ⟨l, rfl⟩ : ∃ l : Bytes, s = B l := ⟨s.data.toList, (b_eta s).symm⟩
  unfold taquinlaw01_WireReads.f
  refine Ev.bind small_ev ?_
  have stop : Ev (fun k => taquinlaw01_WireReads.j0 k (B l) calls true true) true := by
    refine Ev.step (f := fun k => some true) (fun k => ?_) (Ev.now _)
    simp only [taquinlaw01_WireReads.j0, if_true]
  by_cases hs : ((B l).size : Int) > 400
  · exact Ev.congr (fun k => if_pos hs) stop
  refine Ev.congr (fun k => if_neg hs) ?_
  rw [b_size] at hs
  by_cases hc : (calls.length : Int) > 20
  · refine Ev.congr (f := fun k => taquinlaw01_WireReads.j0 k (B l) calls true true) (fun k => congrArg (fun z => taquinlaw01_WireReads.j0 k (B l) calls true z) (decide_eq_true hc)) stop
  · refine Ev.congr (f := fun k => taquinlaw01_WireReads.j0 k (B l) calls true false) (fun k => congrArg (fun z => taquinlaw01_WireReads.j0 k (B l) calls true z) (decide_eq_false hc)) ?_
    refine Ev.step (f := fun k => taquinlaw01_WireReads.l0 k calls true ((0 : Nat) : Int) (B l) false (B l) false) (fun k => ?_) (l0_ev calls (by omega) calls.length 0 l false (by omega) (by omega) (fun h => by cases h) (by omega))
    simp only [taquinlaw01_WireReads.j0, Bool.false_eq_true, if_false]
    rfl
end Go.Proofs.YtigdjhnpngjhjaaDoor.WireP6Wt
