/- The encoding of numbers, strings and lists as bytes, and a reader of it: plain lists, no program. -/
import Derived.Lib.ItoaLen
import Derived.Lib.AtoiAllCases
import Derived.Lib.Bytealg
namespace Go.Proofs.YtphcihbffiggbaaGreatDoor.WireMath
open Go.Lib
abbrev Bytes := List UInt8
def isInt (n : Int) : Prop := -9223372036854775808 ≤ n ∧ n ≤ 9223372036854775807
theorem digit_byte {u : Nat} (h : u < 10) : (UInt8.ofNat (48 + u)).toNat = 48 + u := by
  rw [UInt8.toNat_ofNat']; omega
theorem dec_digits (u : Nat) : ∀ c ∈ decDigits u, 48 ≤ c.toNat ∧ c.toNat ≤ 57 := by
  induction u using Nat.strongRecOn with
  | _ u ih =>
    rw [decDigits]
    split
    · rename_i h
      intro c hc
      simp only [List.mem_singleton] at hc
      subst hc
      rw [digit_byte h]; omega
    · intro c hc
      rw [List.mem_append] at hc
      rcases hc with hc | hc
      · exact ih (u / 10) (by omega) c hc
      · simp only [List.mem_singleton] at hc
        subst hc
        rw [digit_byte (by omega)]; omega
theorem dec_ne_nil (u : Nat) : decDigits u ≠ [] := by
  intro h
  have h1 := decDigits_length u
  have h2 := nDigits_pos u
  rw [h] at h1; simp at h1; omega
theorem parse_app (l : Bytes) (c : UInt8) : ∀ (acc u : Nat), parseUint10 acc l = .ok u → 48 ≤ c.toNat → c.toNat ≤ 57 → u < 1844674407370955161 → parseUint10 acc (l ++ [c]) = .ok (u * 10 + (c.toNat - 48)) := by
  induction l with
  | nil =>
    intro acc u h h1 h2 h3
    simp only [parseUint10, NumEnd.ok.injEq] at h
    subst h
    simp only [List.nil_append, parseUint10]
    rw [if_pos ⟨h1, h2⟩, if_neg (by omega), if_neg (by omega)]
  | cons b l ih =>
    intro acc u h h1 h2 h3
    simp only [List.cons_append, parseUint10] at h ⊢
    split at h
    · rename_i hd
      rw [if_pos hd]
      split at h
      · cases h
      · rename_i ha
        rw [if_neg ha]
        split at h
        · cases h
        · rename_i hb
          rw [if_neg hb]
          exact ih _ _ h h1 h2 h3
    · cases h
theorem parse_dec (u : Nat) (h : u < 18446744073709551610) : parseUint10 0 (decDigits u) = .ok u := by
  induction u using Nat.strongRecOn with
  | _ u ih =>
    rw [decDigits]
    split
    · rename_i hu
      simp only [parseUint10]
      rw [digit_byte hu, if_pos (by omega), if_neg (by omega), if_neg (by omega)]
      congr 1; omega
    · rw [parse_app _ _ 0 (u / 10) (ih (u / 10) (by omega) (by omega)) (by rw [digit_byte (by omega)]; omega) (by rw [digit_byte (by omega)]; omega) (by omega)]
      rw [digit_byte (by omega)]
      congr 1; omega
theorem parseMag_dec (u : Nat) (h : u < 18446744073709551610) : parseMag (decDigits u) = .ok u := by
  unfold parseMag
  rw [if_neg (dec_ne_nil u), parse_dec u h]
theorem atoi_itoa {n : Int} (h : isInt n) : atoiAll (itoa n) = .ok n := by
  obtain ⟨h0, h1⟩ := h
  unfold itoa
  split
  · rw [atoiAll_minus, parseMag_dec _ (by omega)]
    simp only [signed]
    rw [if_neg (by omega)]
    congr 1; omega
  · rename_i hn
    have hd := dec_digits n.toNat
    have hne := dec_ne_nil n.toNat
    have hp := parseMag_dec n.toNat (by omega)
    cases hl : decDigits n.toNat with
    | nil => exact absurd hl hne
    | cons c r =>
      rw [hl] at hd hp
      have := hd c (by simp)
      rw [atoiAll_plain c r (by omega) (by omega), hp]
      simp only [signless]
      rw [if_neg (by omega)]
      congr 1; omega
theorem itoa_bytes (n : Int) : ∀ c ∈ itoa n, c.toNat = 45 ∨ (48 ≤ c.toNat ∧ c.toNat ≤ 57) := by
  intro c hc
  unfold itoa at hc
  split at hc
  · rcases List.mem_cons.1 hc with rfl | hc
    · exact .inl rfl
    · exact .inr (dec_digits _ c hc)
  · exact .inr (dec_digits _ c hc)
theorem nDigits_lt (u k : Nat) (h : u < 10 ^ (k + 1)) : nDigits u ≤ k + 1 := by
  induction k generalizing u with
  | zero => rw [nDigits_small (by simpa using h)]; omega
  | succ k ih =>
    by_cases hu : u < 10
    · rw [nDigits_small hu]; omega
    · rw [nDigits_big hu]
      have := ih (u / 10) (by rw [Nat.pow_succ] at h; omega)
      omega
theorem itoa_length {n : Int} (h : isInt n) : 1 ≤ (itoa n).length ∧ (itoa n).length ≤ 20 := by
  obtain ⟨h0, h1⟩ := h
  unfold itoa
  split
  · rw [List.length_cons, decDigits_length]
    have := nDigits_lt n.natAbs 18 (by omega)
    omega
  · rw [decDigits_length]
    have := nDigits_lt n.toNat 18 (by omega)
    have := nDigits_pos n.toNat
    omega
theorem itoa_not {n : Int} {e : UInt8} (he : 57 < e.toNat) : ∀ c ∈ itoa n, c ≠ e := by
  intro c hc h
  subst h
  rcases itoa_bytes n c hc with h | h <;> omega
def encInt (n : Int) : Bytes := itoa n ++ [59]
def encNums (l : List Int) : Bytes := itoa l.length ++ 91 :: ((l.map encInt).flatten ++ [93])
def scan (e : UInt8) (r : Bytes) : Option (Bytes × Bytes) :=
  let h := (r.take 21).takeWhile (· ≠ e)
  if h.length < (r.take 21).length then some (h, r.drop (h.length + 1)) else none
def rdNum (e : UInt8) (least : Int) (r : Bytes) : Option (Int × Bytes) :=
  match scan e r with
  | none => none
  | some (h, t) => match atoiAll h with
    | .ok n => if itoa n = h ∧ least ≤ n then some (n, t) else none
    | _ => none
theorem takeWhile_stop {α : Type} (p : α → Bool) (l : List α) (h : (l.takeWhile p).length < l.length) : ∃ x, l[(l.takeWhile p).length]? = some x ∧ p x = false := by
  induction l with
  | nil => simp at h
  | cons a l ih =>
    cases hp : p a with
    | false => exact ⟨a, by simp [hp], hp⟩
    | true =>
      simp only [List.takeWhile_cons, hp, if_true, List.length_cons] at h ⊢
      obtain ⟨x, hx, hpx⟩ := ih (by omega)
      exact ⟨x, by simpa using hx, hpx⟩
theorem takeWhile_all {α : Type} (p : α → Bool) (l : List α) : ∀ c ∈ l.takeWhile p, p c = true := by
  induction l with
  | nil => simp
  | cons a l ih =>
    cases hp : p a with
    | false => simp [hp]
    | true =>
      intro c hc
      simp only [List.takeWhile_cons, hp, if_true, List.mem_cons] at hc
      rcases hc with rfl | hc
      · exact hp
      · exact ih c hc
theorem takeWhile_pre {α : Type} (p : α → Bool) (l : List α) : l.takeWhile p = l.take (l.takeWhile p).length := by
  induction l with
  | nil => rfl
  | cons a l ih =>
    cases hp : p a with
    | false => simp [hp]
    | true => simp only [List.takeWhile_cons, hp, if_true, List.length_cons, List.take_succ_cons]; rw [← ih]
theorem scan_some {e : UInt8} {r h t : Bytes} : scan e r = some (h, t) ↔ r = h ++ e :: t ∧ h.length ≤ 20 ∧ ∀ c ∈ h, c ≠ e := by
  constructor
  · intro hs
    unfold scan at hs
    simp only at hs
    split at hs
    · rename_i hl
      obtain ⟨rfl, rfl⟩ := Prod.mk.inj (Option.some.inj hs)
      obtain ⟨x, hx, hpx⟩ := takeWhile_stop _ _ hl
      have hpre := takeWhile_pre (fun c => decide (c ≠ e)) (r.take 21)
      have hall : ∀ c ∈ (r.take 21).takeWhile (fun c => decide (c ≠ e)), c ≠ e := by
        intro c hc
        exact by simpa using takeWhile_all _ _ c hc
      generalize hh : (r.take 21).takeWhile (fun c => decide (c ≠ e)) = h at *
      rw [List.length_take] at hl
      rw [List.take_take, Nat.min_eq_left (by omega)] at hpre
      rw [List.getElem?_take_of_lt (by omega)] at hx
      have hxe : x = e := by simpa using hpx
      subst hxe
      refine ⟨?_, by omega, hall⟩
      conv => lhs; rw [← List.take_append_drop h.length r]
      rw [← hpre]
      congr 1
      obtain ⟨hlt, hget⟩ := List.getElem?_eq_some_iff.1 hx
      rw [List.drop_eq_getElem_cons hlt, hget]
    · cases hs
  · rintro ⟨rfl, hl, hne⟩
    unfold scan
    have htk : (h ++ e :: t).take 21 = h ++ (e :: t).take (21 - h.length) := by
      rw [List.take_append, List.take_of_length_le (by omega)]
    have htk2 : (e :: t).take (21 - h.length) = e :: t.take (20 - h.length) := by
      rw [show 21 - h.length = (20 - h.length) + 1 by omega, List.take_succ_cons]
    have htw : (h ++ e :: t.take (20 - h.length)).takeWhile (fun c => decide (c ≠ e)) = h := by
      rw [List.takeWhile_append_of_pos (by intro c hc; simpa using hne c hc)]
      simp
    simp only [htk, htk2]
    rw [htw, if_pos (by simp)]
    simp
theorem rdNum_some {e : UInt8} {least n : Int} {r t : Bytes} (he : 57 < e.toNat) : rdNum e least r = some (n, t) ↔ r = itoa n ++ e :: t ∧ least ≤ n ∧ isInt n := by
  constructor
  · intro h
    unfold rdNum at h
    split at h
    · cases h
    · rename_i h' t' hs
      split at h
      · rename_i m hm
        split at h
        · rename_i hc
          obtain ⟨rfl, rfl⟩ := Prod.mk.inj (Option.some.inj h)
          obtain ⟨rfl, hl⟩ := hc
          exact ⟨(scan_some.1 hs).1, hl, atoiAll_bounds hm⟩
        · cases h
      · cases h
  · rintro ⟨rfl, hl, hi⟩
    have hs : scan e (itoa n ++ e :: t) = some (itoa n, t) := scan_some.2 ⟨rfl, (itoa_length hi).2, itoa_not he⟩
    unfold rdNum
    rw [hs]
    simp only [atoi_itoa hi]
    rw [if_pos ⟨trivial, hl⟩]
theorem rdNum_length {e : UInt8} {least n : Int} {r t : Bytes} (he : 57 < e.toNat) (h : rdNum e least r = some (n, t)) : t.length + 2 ≤ r.length := by
  obtain ⟨rfl, _, h2⟩ := (rdNum_some he).1 h
  have := (itoa_length h2).1
  simp; omega
abbrev Rd := Bytes × Bool
def failed : Rd := ([], true)
def number (e : UInt8) (least : Int) (r : Rd) : Int × Rd :=
  match rdNum e least r.1 with
  | some (n, t) => (n, (t, r.2))
  | none => (0, failed)
def close (e : UInt8) (r : Rd) : Rd :=
  match r.1 with
  | [] => failed
  | c :: t => if c = e then (t, r.2) else failed
def rInt (r : Rd) : Int × Rd := number 59 (-9223372036854775808) r
def rMany {α : Type} (one : Rd → α × Rd) : Nat → Rd → List α × Rd
  | 0, r => ([], r)
  | n + 1, r => if r.2 then ([], r) else
    let p := one r
    let q := rMany one n p.2
    (p.1 :: q.1, q.2)
def rList {α : Type} (one : Rd → α × Rd) (r : Rd) : List α × Rd :=
  let p := number 91 0 r
  let q := rMany one p.1.toNat p.2
  let z := close 93 q.2
  (if z.2 then [] else q.1, z)
def rNums (r : Rd) : List Int × Rd := rList rInt r
def Ok (r : Rd) : Prop := r.2 = true → r.1 = []
theorem number_ok {e : UInt8} {least : Int} {r : Rd} (h : Ok r) : Ok (number e least r).2 := by
  unfold number
  split
  · rename_i n t hr
    intro hb
    have := h hb
    rw [this] at hr
    have : rdNum e least [] = none := by simp [rdNum, scan]
    simp_all
  · intro _; rfl
theorem rInt_ok {r : Rd} (h : Ok r) : Ok (rInt r).2 := number_ok h
theorem indexByte_eq (l : Bytes) (c : UInt8) : indexByte l c = if (l.takeWhile (· ≠ c)).length < l.length then ((l.takeWhile (· ≠ c)).length : Int) else -1 := by
  induction l with
  | nil => rfl
  | cons b l ih =>
    unfold indexByte
    by_cases hb : b = c
    · subst hb
      simp
    · have hbc : (b == c) = false := by simpa using hb
      rw [hbc, ih]
      simp only [Bool.false_eq_true, if_false, List.takeWhile_cons, ne_eq, hb, not_false_eq_true, decide_true, if_true, List.length_cons]
      split
      · rw [if_neg (by simp), if_pos (by omega)]; simp
      · rw [if_pos (by simp), if_neg (by omega)]
theorem scan_none {e : UInt8} {r : Bytes} (h : scan e r = none) : indexByte (r.take 21) e = -1 := by
  rw [indexByte_eq]
  unfold scan at h
  simp only at h
  split at h
  · cases h
  · rename_i hn
    rw [if_neg hn]
theorem scan_index {e : UInt8} {r h t : Bytes} (hs : scan e r = some (h, t)) : indexByte (r.take 21) e = (h.length : Int) ∧ (r.take 21).take h.length = h ∧ r.drop (h.length + 1) = t ∧ h.length ≤ 20 ∧ h.length < r.length := by
  rw [indexByte_eq]
  have hs2 := scan_some.1 hs
  unfold scan at hs
  simp only at hs
  split at hs
  · rename_i hl
    obtain ⟨rfl, rfl⟩ := Prod.mk.inj (Option.some.inj hs)
    rw [if_pos hl]
    refine ⟨rfl, (takeWhile_pre _ _).symm, rfl, hs2.2.1, ?_⟩
    rw [List.length_take] at hl
    omega
  · cases hs
theorem number_none {e : UInt8} {least : Int} {r : Rd} (h : rdNum e least r.1 = none) : number e least r = (0, failed) := by unfold number; rw [h]
theorem number_some {e : UInt8} {least n : Int} {r : Rd} {t : Bytes} (h : rdNum e least r.1 = some (n, t)) : number e least r = (n, (t, r.2)) := by unfold number; rw [h]
theorem number_nonneg (e : UInt8) (r : Rd) : 0 ≤ (number e 0 r).1 := by
  unfold number
  split
  · rename_i n t hr
    unfold rdNum at hr
    split at hr
    · cases hr
    · split at hr
      · split at hr
        · rename_i hc
          obtain ⟨rfl, _⟩ := Prod.mk.inj (Option.some.inj hr)
          exact hc.2
        · cases hr
      · cases hr
  · exact Int.le_refl _
theorem number_le (e : UInt8) (he : 57 < e.toNat) (least : Int) (r : Rd) : (number e least r).2.1.length ≤ r.1.length ∧ ((number e least r).2.2 = false → r.2 = false ∧ (number e least r).2.1.length + 2 ≤ r.1.length) := by
  unfold number
  split
  · rename_i n t hr
    have := rdNum_length he hr
    exact ⟨by simp only; omega, fun h => ⟨h, this⟩⟩
  · exact ⟨Nat.zero_le _, fun h => by cases h⟩
theorem number_max (e : UInt8) (least : Int) (r : Rd) : (number e least r).1 ≤ 9223372036854775807 := by
  unfold number
  split
  · rename_i n t hr
    unfold rdNum at hr
    split at hr
    · cases hr
    · split at hr
      · rename_i m hm
        split at hr
        · obtain ⟨rfl, _⟩ := Prod.mk.inj (Option.some.inj hr)
          exact (atoiAll_bounds hm).2
        · cases hr
      · cases hr
  · decide
theorem rMany_end {α : Type} (one : Rd → α × Rd) (m : Nat) (r : Rd) (h : m = 0 ∨ r.2 = true) : rMany one m r = ([], r) := by
  cases m with
  | zero => rfl
  | succ m =>
    rcases h with h | h
    · cases h
    · simp [rMany, h]
theorem rMany_succ {α : Type} (one : Rd → α × Rd) (m : Nat) (u : Bytes) {x : α} {r1 : Rd} (h : one (u, false) = (x, r1)) : rMany one (m + 1) (u, false) = (x :: (rMany one m r1).1, (rMany one m r1).2) := by
  simp [rMany, h]
end Go.Proofs.YtphcihbffiggbaaGreatDoor.WireMath
