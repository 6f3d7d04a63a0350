/- A desk read from its encoding: plain facts. -/
import Derived.Test.YtdgbfaflepiagaaDoorSeamFSe
import Derived.Test.YtdgbfaflepiagaaDoorPSex1
import Derived.Test.YtdgbfaflepiagaaDoorPSex2
namespace Go.Proofs.YtdgbfaflepiagaaDoor.Seam
open Go.RowKit Go.Proofs.YtdgbfaflepiagaaDoorW.PrintWords Go.Proofs.YtdgbfaflepiagaaDoorW.PrintMore Go.Proofs.YtdgbfaflepiagaaDoor.PSe Go.Proofs.YtdgbfaflepiagaaDoor.WireMath Go.Proofs.YtdgbfaflepiagaaDoor.WireB
set_option linter.unusedVariables false
set_option linter.unusedSimpArgs false
theorem rd_int (l : Bytes) (b : Bool) : wire_Reader_Int.f (B l) b = some ((rInt (l, b)).1, B (rInt (l, b)).2.1, (rInt (l, b)).2.2) := rfl
theorem rd_num (l : Bytes) (b : Bool) : wire_Reader_Num.f (B l) b = some ((rNum (l, b)).1, B (rNum (l, b)).2.1, (rNum (l, b)).2.2) := rfl
theorem rd_left (l : Bytes) (b : Bool) : wire_Reader_Left.f (B l) b = some ((l.length : Int), B l, b) := by unfold wire_Reader_Left.f; rw [b_size]
theorem rd_done (l : Bytes) (b : Bool) : wire_Reader_Done.f (B l) b = some (!b && l.isEmpty, B l, b) := by
  unfold wire_Reader_Done.f
  cases b
  · rw [if_neg (by simp), b_toList]
    cases l <;> rfl
  · rfl
theorem num_int {e : UInt8} (he : 57 < e.toNat) (least : Int) (r : Rd) : isInt (number e least r).1 := by
  cases h : rdNum e least r.1 with
  | none => rw [number_none h]; exact ⟨by decide, by decide⟩
  | some x => rw [number_some h]; exact ((rdNum_some he).1 h).2.2
theorem num_lt {e : UInt8} (he : 57 < e.toNat) (least : Int) (r : Rd) (hr : r.1 ≠ []) : (number e least r).2.1.length < r.1.length := by
  cases h : rdNum e least r.1 with
  | none => rw [number_none h]; exact List.length_pos_iff.2 hr
  | some x => rw [number_some h]; have := rdNum_length he h; show x.2.length < _; omega
theorem num_le {e : UInt8} (he : 57 < e.toNat) (least : Int) (r : Rd) : (number e least r).2.1.length ≤ r.1.length := (number_le e he least r).1
def rdRob (r : Rd) : Rob × Rd := (⟨(rInt r).1, (rInt (rInt r).2).1, (rInt (rInt (rInt r).2).2).1 == 1⟩, (rInt (rInt (rInt r).2).2).2)
def okRob (x : Rob) : Prop := 0 ≤ x.ph ∧ x.ph < 3 ∧ 0 ≤ x.no ∧ x.no ≤ 2199023255552 ∧ (x.rf = true → x.ph = 0)
instance (x : Rob) : Decidable (okRob x) := by unfold okRob; exact inferInstance
def rdLoop : Nat → Rd → List Rob → Option (List Rob × Rd)
  | 0, r, l => some (l, r)
  | n + 1, r, l => if r.1 = [] then some (l, r) else if okRob (rdRob r).1 then rdLoop n (rdRob r).2 (l ++ [(rdRob r).1]) else none
def fin (s : Bytes) (me : Int) (o : Option (List Rob × Rd)) : Option (Int × List Rob) :=
  o.bind fun x => if (!x.2.2 && x.2.1.isEmpty) = true ∧ (me = 0 ∨ me = 1) ∧ x.1.length ≤ 200 ∧ encDesk me x.1 = s then some (me, x.1) else none
def rdDesk (s : Bytes) : Option (Int × List Rob) := fin s (rInt (s, false)).1 (rdLoop (rNum (rInt (s, false)).2).1.toNat (rNum (rInt (s, false)).2).2 [])
theorem rob_lt (r : Rd) (h : r.1 ≠ []) : (rdRob r).2.1.length < r.1.length := by
  have h1 := num_lt (e := 59) (by decide) (-9223372036854775808) r h
  have h2 := num_le (e := 59) (by decide) (-9223372036854775808) (rInt r).2
  have h3 := num_le (e := 59) (by decide) (-9223372036854775808) (rInt (rInt r).2).2
  exact Nat.lt_of_le_of_lt h3 (Nat.lt_of_le_of_lt h2 h1)
theorem rob_int (r : Rd) : isInt (rdRob r).1.ph ∧ isInt (rdRob r).1.no := ⟨num_int (by decide) _ _, num_int (by decide) _ _⟩
/-! ### what was written is read -/
theorem enc_rob_rd {x : Rob} (h : isInt x.ph ∧ isInt x.no) (t : Bytes) : rdRob (encRob x ++ t, false) = (x, (t, false)) := by
  obtain ⟨ph, no, rf⟩ := x
  have e : encRob ⟨ph, no, rf⟩ ++ t = encInt ph ++ (encInt no ++ (encInt (bit rf) ++ t)) := by simp [encRob]
  rw [e]
  unfold rdRob
  rw [rInt_enc h.1, rInt_enc h.2, rInt_enc (bit_int rf)]
  cases rf <;> rfl
theorem encInt_ne (n : Int) (t : Bytes) : encInt n ++ t ≠ [] := by
  intro h
  have := congrArg List.length h
  simp [encInt] at this
theorem encRob_ne (x : Rob) (t : Bytes) : encRob x ++ t ≠ [] := by
  have e : encRob x ++ t = encInt x.ph ++ (encInt x.no ++ (encInt (bit x.rf) ++ t)) := by simp [encRob]
  rw [e]; exact encInt_ne _ _
theorem loop_enc : ∀ (l acc : List Rob), (∀ r ∈ l, okRob r) → rdLoop l.length ((l.map encRob).flatten, false) acc = some (acc ++ l, ([], false))
  | [], acc, _ => by simp [rdLoop]
  | x :: l, acc, h => by
    have hx := h x (by simp)
    have hi : isInt x.ph ∧ isInt x.no := by
      obtain ⟨h1, h2, h3, h4, _⟩ := hx
      exact ⟨⟨by omega, by omega⟩, by omega, by omega⟩
    rw [List.length_cons, rdLoop, List.map_cons, List.flatten_cons, if_neg (encRob_ne _ _), enc_rob_rd hi]
    simp only
    rw [if_pos hx, loop_enc l _ (fun r hr => h r (by simp [hr]))]
    simp
theorem read_enc {me : Int} {l : List Rob} (hm : me = 0 ∨ me = 1) (hl : l.length ≤ 200) (h : ∀ r ∈ l, okRob r) : rdDesk (encDesk me l) = some (me, l) := by
  have hi : isInt me := by rcases hm with rfl | rfl <;> exact ⟨by decide, by decide⟩
  have e : encDesk me l = encInt me ++ (encNum l.length ++ (l.map encRob).flatten) := by simp [encDesk]
  unfold rdDesk
  have h1 : rInt (encDesk me l, false) = (me, (encNum l.length ++ (l.map encRob).flatten, false)) := by rw [e]; exact rInt_enc hi _ _
  rw [h1]
  simp only
  rw [rNum_enc (by omega) ⟨by omega, by omega⟩]
  simp only [Int.toNat_natCast]
  rw [loop_enc l [] h]
  simp [fin, hm, hl]
/-! ### what is read is right -/
theorem loop_ok : ∀ (n : Nat) (r : Rd) (acc : List Rob) (l : List Rob) (r' : Rd), rdLoop n r acc = some (l, r') → (∀ x ∈ acc, okRob x) → ∀ x ∈ l, okRob x
  | 0, r, acc, l, r', h, ha => by
    simp only [rdLoop, Option.some.injEq, Prod.mk.injEq] at h
    rw [← h.1]; exact ha
  | n + 1, r, acc, l, r', h, ha => by
    rw [rdLoop] at h
    split at h
    · simp only [Option.some.injEq, Prod.mk.injEq] at h
      rw [← h.1]; exact ha
    · split at h
      · rename_i hx
        refine loop_ok n _ _ l r' h ?_
        intro x hx'
        rcases List.mem_append.1 hx' with h1 | h1
        · exact ha x h1
        · rw [List.mem_singleton.1 h1]; exact hx
      · cases h
theorem read_ok {s : Bytes} {me : Int} {l : List Rob} (h : rdDesk s = some (me, l)) : (me = 0 ∨ me = 1) ∧ l.length ≤ 200 ∧ (∀ r ∈ l, okRob r) ∧ encDesk me l = s := by
  unfold rdDesk fin at h
  obtain ⟨⟨l', r'⟩, h1, h2⟩ := Option.bind_eq_some_iff.1 h
  split at h2
  · rename_i hc
    simp only [Option.some.injEq, Prod.mk.injEq] at h2
    obtain ⟨rfl, rfl⟩ := h2
    exact ⟨hc.2.1, hc.2.2.1, loop_ok _ _ _ _ _ h1 (fun _ h => by cases h), hc.2.2.2⟩
  · cases h2
end Go.Proofs.YtdgbfaflepiagaaDoor.Seam
