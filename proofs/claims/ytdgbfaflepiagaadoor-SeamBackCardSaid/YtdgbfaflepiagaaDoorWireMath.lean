/- The encoding of numbers, strings and lists as bytes, and a reader of it: plain lists, no program. -/
import Derived.Lib.ItoaLen
import Derived.Lib.AtoiAllCases
import Derived.Lib.Bytealg
namespace Go.Proofs.YtdgbfaflepiagaaDoor.WireMath
open Go.Lib
abbrev Bytes := List UInt8
def isInt (n : Int) : Prop := -9223372036854775808 ≤ n ∧ n ≤ 9223372036854775807
/-! ### numerals -/
theorem digit_byte {u : Nat} (h : u < 10) : (UInt8.ofNat (48 + u)).toNat = 48 + u := by
  rw [UInt8.toNat_ofNat']; omega
theorem dec_digits (u : Nat) : ∀ c ∈ decDigits u, 48 ≤ c.toNat ∧ c.toNat ≤ 57 := by
  induction u using Nat.strongRecOn with
  | _ u ih =>
    rw [decDigits]
    split
    · rename_i h
      intro c hc
      simp only [List.mem_singleton] at hc
      subst hc
      rw [digit_byte h]; omega
    · intro c hc
      rw [List.mem_append] at hc
      rcases hc with hc | hc
      · exact ih (u / 10) (by omega) c hc
      · simp only [List.mem_singleton] at hc
        subst hc
        rw [digit_byte (by omega)]; omega
theorem dec_ne_nil (u : Nat) : decDigits u ≠ [] := by
  intro h
  have h1 := decDigits_length u
  have h2 := nDigits_pos u
  rw [h] at h1; simp at h1; omega
theorem parse_app (l : Bytes) (c : UInt8) : ∀ (acc u : Nat), parseUint10 acc l = .ok u → 48 ≤ c.toNat → c.toNat ≤ 57 → u < 1844674407370955161 → parseUint10 acc (l ++ [c]) = .ok (u * 10 + (c.toNat - 48)) := by
  induction l with
  | nil =>
    intro acc u h h1 h2 h3
    simp only [parseUint10, NumEnd.ok.injEq] at h
    subst h
    simp only [List.nil_append, parseUint10]
    rw [if_pos ⟨h1, h2⟩, if_neg (by omega), if_neg (by omega)]
  | cons b l ih =>
    intro acc u h h1 h2 h3
    simp only [List.cons_append, parseUint10] at h ⊢
    split at h
    · rename_i hd
      rw [if_pos hd]
      split at h
      · cases h
      · rename_i ha
        rw [if_neg ha]
        split at h
        · cases h
        · rename_i hb
          rw [if_neg hb]
          exact ih _ _ h h1 h2 h3
    · cases h
theorem parse_dec (u : Nat) (h : u < 18446744073709551610) : parseUint10 0 (decDigits u) = .ok u := by
  induction u using Nat.strongRecOn with
  | _ u ih =>
    rw [decDigits]
    split
    · rename_i hu
      simp only [parseUint10]
      rw [digit_byte hu, if_pos (by omega), if_neg (by omega), if_neg (by omega)]
      congr 1; omega
    · rw [parse_app _ _ 0 (u / 10) (ih (u / 10) (by omega) (by omega)) (by rw [digit_byte (by omega)]; omega) (by rw [digit_byte (by omega)]; omega) (by omega)]
      rw [digit_byte (by omega)]
      congr 1; omega
theorem parseMag_dec (u : Nat) (h : u < 18446744073709551610) : parseMag (decDigits u) = .ok u := by
  unfold parseMag
  rw [if_neg (dec_ne_nil u), parse_dec u h]
theorem atoi_itoa {n : Int} (h : isInt n) : atoiAll (itoa n) = .ok n := by
  obtain ⟨h0, h1⟩ := h
  unfold itoa
  split
  · rw [atoiAll_minus, parseMag_dec _ (by omega)]
    simp only [signed]
    rw [if_neg (by omega)]
    congr 1; omega
  · rename_i hn
    have hd := dec_digits n.toNat
    have hne := dec_ne_nil n.toNat
    have hp := parseMag_dec n.toNat (by omega)
    cases hl : decDigits n.toNat with
    | nil => exact absurd hl hne
    | cons c r =>
      rw [hl] at hd hp
      have := hd c (by simp)
      rw [atoiAll_plain c r (by omega) (by omega), hp]
      simp only [signless]
      rw [if_neg (by omega)]
      congr 1; omega
theorem itoa_inj {m n : Int} (hm : isInt m) (hn : isInt n) (h : itoa m = itoa n) : m = n := by
  have := atoi_itoa hm
  rw [h, atoi_itoa hn] at this
  injection this with this
  exact this.symm
theorem itoa_bytes (n : Int) : ∀ c ∈ itoa n, c.toNat = 45 ∨ (48 ≤ c.toNat ∧ c.toNat ≤ 57) := by
  intro c hc
  unfold itoa at hc
  split at hc
  · rcases List.mem_cons.1 hc with rfl | hc
    · exact .inl rfl
    · exact .inr (dec_digits _ c hc)
  · exact .inr (dec_digits _ c hc)
theorem nDigits_lt (u k : Nat) (h : u < 10 ^ (k + 1)) : nDigits u ≤ k + 1 := by
  induction k generalizing u with
  | zero => rw [nDigits_small (by simpa using h)]; omega
  | succ k ih =>
    by_cases hu : u < 10
    · rw [nDigits_small hu]; omega
    · rw [nDigits_big hu]
      have := ih (u / 10) (by rw [Nat.pow_succ] at h; omega)
      omega
theorem itoa_length {n : Int} (h : isInt n) : 1 ≤ (itoa n).length ∧ (itoa n).length ≤ 20 := by
  obtain ⟨h0, h1⟩ := h
  unfold itoa
  split
  · rw [List.length_cons, decDigits_length]
    have := nDigits_lt n.natAbs 18 (by omega)
    omega
  · rw [decDigits_length]
    have := nDigits_lt n.toNat 18 (by omega)
    have := nDigits_pos n.toNat
    omega
theorem itoa_not {n : Int} {e : UInt8} (he : 57 < e.toNat) : ∀ c ∈ itoa n, c ≠ e := by
  intro c hc h
  subst h
  rcases itoa_bytes n c hc with h | h <;> omega
/-! ### encodings -/
def encInt (n : Int) : Bytes := itoa n ++ [59]
def encNum (n : Int) : Bytes := if n < 0 then [] else encInt n
def encText (s : Bytes) : Bytes := itoa s.length ++ 58 :: (s ++ [44])
def encNums (l : List Int) : Bytes := itoa l.length ++ 91 :: ((l.map encInt).flatten ++ [93])
def encTexts (l : List Bytes) : Bytes := itoa l.length ++ 91 :: ((l.map encText).flatten ++ [93])
/-! ### reading -/
/-- What stands before the first byte e among the first 21, and what stands behind it. -/
def scan (e : UInt8) (r : Bytes) : Option (Bytes × Bytes) :=
  let h := (r.take 21).takeWhile (· ≠ e)
  if h.length < (r.take 21).length then some (h, r.drop (h.length + 1)) else none
/-- a number, at least as great as a limit, and the byte behind it -/
def rdNum (e : UInt8) (least : Int) (r : Bytes) : Option (Int × Bytes) :=
  match scan e r with
  | none => none
  | some (h, t) => match atoiAll h with
    | .ok n => if itoa n = h ∧ least ≤ n then some (n, t) else none
    | _ => none
theorem takeWhile_stop {α : Type} (p : α → Bool) (l : List α) (h : (l.takeWhile p).length < l.length) : ∃ x, l[(l.takeWhile p).length]? = some x ∧ p x = false := by
  induction l with
  | nil => simp at h
  | cons a l ih =>
    cases hp : p a with
    | false => exact ⟨a, by simp [hp], hp⟩
    | true =>
      simp only [List.takeWhile_cons, hp, if_true, List.length_cons] at h ⊢
      obtain ⟨x, hx, hpx⟩ := ih (by omega)
      exact ⟨x, by simpa using hx, hpx⟩
theorem takeWhile_all {α : Type} (p : α → Bool) (l : List α) : ∀ c ∈ l.takeWhile p, p c = true := by
  induction l with
  | nil => simp
  | cons a l ih =>
    cases hp : p a with
    | false => simp [hp]
    | true =>
      intro c hc
      simp only [List.takeWhile_cons, hp, if_true, List.mem_cons] at hc
      rcases hc with rfl | hc
      · exact hp
      · exact ih c hc
theorem takeWhile_pre {α : Type} (p : α → Bool) (l : List α) : l.takeWhile p = l.take (l.takeWhile p).length := by
  induction l with
  | nil => rfl
  | cons a l ih =>
    cases hp : p a with
    | false => simp [hp]
    | true => simp only [List.takeWhile_cons, hp, if_true, List.length_cons, List.take_succ_cons]; rw [← ih]
theorem scan_some {e : UInt8} {r h t : Bytes} : scan e r = some (h, t) ↔ r = h ++ e :: t ∧ h.length ≤ 20 ∧ ∀ c ∈ h, c ≠ e := by
  constructor
  · intro hs
    unfold scan at hs
    simp only at hs
    split at hs
    · rename_i hl
      obtain ⟨rfl, rfl⟩ := Prod.mk.inj (Option.some.inj hs)
      obtain ⟨x, hx, hpx⟩ := takeWhile_stop _ _ hl
      have hpre := takeWhile_pre (fun c => decide (c ≠ e)) (r.take 21)
      have hall : ∀ c ∈ (r.take 21).takeWhile (fun c => decide (c ≠ e)), c ≠ e := by
        intro c hc
        exact by simpa using takeWhile_all _ _ c hc
      generalize hh : (r.take 21).takeWhile (fun c => decide (c ≠ e)) = h at *
      rw [List.length_take] at hl
      rw [List.take_take, Nat.min_eq_left (by omega)] at hpre
      rw [List.getElem?_take_of_lt (by omega)] at hx
      have hxe : x = e := by simpa using hpx
      subst hxe
      refine ⟨?_, by omega, hall⟩
      conv => lhs; rw [← List.take_append_drop h.length r]
      rw [← hpre]
      congr 1
      obtain ⟨hlt, hget⟩ := List.getElem?_eq_some_iff.1 hx
      rw [List.drop_eq_getElem_cons hlt, hget]
    · cases hs
  · rintro ⟨rfl, hl, hne⟩
    unfold scan
    have htk : (h ++ e :: t).take 21 = h ++ (e :: t).take (21 - h.length) := by
      rw [List.take_append, List.take_of_length_le (by omega)]
    have htk2 : (e :: t).take (21 - h.length) = e :: t.take (20 - h.length) := by
      rw [show 21 - h.length = (20 - h.length) + 1 by omega, List.take_succ_cons]
    have htw : (h ++ e :: t.take (20 - h.length)).takeWhile (fun c => decide (c ≠ e)) = h := by
      rw [List.takeWhile_append_of_pos (by intro c hc; simpa using hne c hc)]
      simp
    simp only [htk, htk2]
    rw [htw, if_pos (by simp)]
    simp
theorem rdNum_some {e : UInt8} {least n : Int} {r t : Bytes} (he : 57 < e.toNat) : rdNum e least r = some (n, t) ↔ r = itoa n ++ e :: t ∧ least ≤ n ∧ isInt n := by
  constructor
  · intro h
    unfold rdNum at h
    split at h
    · cases h
    · rename_i h' t' hs
      split at h
      · rename_i m hm
        split at h
        · rename_i hc
          obtain ⟨rfl, rfl⟩ := Prod.mk.inj (Option.some.inj h)
          obtain ⟨rfl, hl⟩ := hc
          exact ⟨(scan_some.1 hs).1, hl, atoiAll_bounds hm⟩
        · cases h
      · cases h
  · rintro ⟨rfl, hl, hi⟩
    have hs : scan e (itoa n ++ e :: t) = some (itoa n, t) := scan_some.2 ⟨rfl, (itoa_length hi).2, itoa_not he⟩
    unfold rdNum
    rw [hs]
    simp only [atoi_itoa hi]
    rw [if_pos ⟨trivial, hl⟩]
theorem rdNum_append {e : UInt8} {least n : Int} {r t : Bytes} (he : 57 < e.toNat) (h : rdNum e least r = some (n, t)) (u : Bytes) : rdNum e least (r ++ u) = some (n, t ++ u) := by
  rw [rdNum_some he] at h ⊢
  obtain ⟨rfl, h1, h2⟩ := h
  exact ⟨by simp, h1, h2⟩
theorem rdNum_length {e : UInt8} {least n : Int} {r t : Bytes} (he : 57 < e.toNat) (h : rdNum e least r = some (n, t)) : t.length + 2 ≤ r.length := by
  obtain ⟨rfl, _, h2⟩ := (rdNum_some he).1 h
  have := (itoa_length h2).1
  simp; omega
/-- a reader: what is left, and whether it has failed -/
abbrev Rd := Bytes × Bool
def failed : Rd := ([], true)
def number (e : UInt8) (least : Int) (r : Rd) : Int × Rd :=
  match rdNum e least r.1 with
  | some (n, t) => (n, (t, r.2))
  | none => (0, failed)
def close (e : UInt8) (r : Rd) : Rd :=
  match r.1 with
  | [] => failed
  | c :: t => if c = e then (t, r.2) else failed
def rInt (r : Rd) : Int × Rd := number 59 (-9223372036854775808) r
def rNum (r : Rd) : Int × Rd := number 59 0 r
def rText (r : Rd) : Bytes × Rd :=
  let p := number 58 0 r
  if p.2.1.length < p.1 then ([], failed)
  else
    let q := close 44 (p.2.1.drop p.1.toNat, p.2.2)
    (if q.2 then [] else p.2.1.take p.1.toNat, q)
/-- n elements, as long as nothing fails -/
def rMany {α : Type} (one : Rd → α × Rd) : Nat → Rd → List α × Rd
  | 0, r => ([], r)
  | n + 1, r => if r.2 then ([], r) else
    let p := one r
    let q := rMany one n p.2
    (p.1 :: q.1, q.2)
def rList {α : Type} (one : Rd → α × Rd) (r : Rd) : List α × Rd :=
  let p := number 91 0 r
  let q := rMany one p.1.toNat p.2
  let z := close 93 q.2
  (if z.2 then [] else q.1, z)
def rNums (r : Rd) : List Int × Rd := rList rInt r
def rTexts (r : Rd) : List Bytes × Rd := rList rText r
/-! what is read back -/
theorem number_enc {e : UInt8} {least n : Int} (he : 57 < e.toNat) (h : isInt n) (hl : least ≤ n) (t : Bytes) (b : Bool) : number e least (itoa n ++ e :: t, b) = (n, (t, b)) := by
  unfold number
  rw [(rdNum_some (t := t) he).2 ⟨rfl, hl, h⟩]
theorem rInt_enc {n : Int} (h : isInt n) (t : Bytes) (b : Bool) : rInt (encInt n ++ t, b) = (n, (t, b)) := by
  unfold rInt encInt
  rw [List.append_assoc]
  exact number_enc (by decide) h h.1 t b
theorem rNum_enc {n : Int} (h0 : 0 ≤ n) (h : isInt n) (t : Bytes) (b : Bool) : rNum (encNum n ++ t, b) = (n, (t, b)) := by
  unfold rNum encNum encInt
  rw [if_neg (by omega), List.append_assoc]
  exact number_enc (by decide) h h0 t b
theorem rText_enc {s : Bytes} (h : s.length ≤ 9223372036854775807) (t : Bytes) (b : Bool) (hb : b = false) : rText (encText s ++ t, b) = (s, (t, b)) := by
  unfold rText encText
  have e : (itoa s.length ++ 58 :: (s ++ [44])) ++ t = itoa (s.length : Int) ++ 58 :: (s ++ 44 :: t) := by simp
  simp only [e, number_enc (e := 58) (least := 0) (by decide) (n := (s.length : Int)) ⟨by omega, by omega⟩ (by omega)]
  rw [if_neg (by simp; omega)]
  subst hb
  simp [close]
theorem rMany_enc {α : Type} (one : Rd → α × Rd) (enc : α → Bytes) (l : List α) (h : ∀ a ∈ l, ∀ t, one (enc a ++ t, false) = (a, (t, false))) (t : Bytes) : rMany one l.length ((l.map enc).flatten ++ t, false) = (l, (t, false)) := by
  induction l with
  | nil => simp [rMany]
  | cons a l ih =>
    simp only [List.length_cons, List.map_cons, List.flatten_cons, List.append_assoc, rMany]
    rw [h a (by simp), ih (fun a ha => h a (by simp [ha]))]
    simp
theorem rList_enc {α : Type} (one : Rd → α × Rd) (enc : α → Bytes) (l : List α) (hl : l.length ≤ 9223372036854775807) (h : ∀ a ∈ l, ∀ t, one (enc a ++ t, false) = (a, (t, false))) (t : Bytes) :
    rList one ((itoa l.length ++ 91 :: ((l.map enc).flatten ++ [93])) ++ t, false) = (l, (t, false)) := by
  unfold rList
  have e : (itoa l.length ++ 91 :: ((l.map enc).flatten ++ [93])) ++ t = itoa (l.length : Int) ++ 91 :: ((l.map enc).flatten ++ 93 :: t) := by simp
  simp only [e, number_enc (e := 91) (least := 0) (by decide) (n := (l.length : Int)) ⟨by omega, by omega⟩ (by omega), Int.toNat_natCast]
  rw [rMany_enc one enc l h]
  simp [close]
theorem rNums_enc {l : List Int} (hl : l.length ≤ 9223372036854775807) (h : ∀ a ∈ l, isInt a) (t : Bytes) : rNums (encNums l ++ t, false) = (l, (t, false)) :=
  rList_enc rInt encInt l hl (fun a ha t => rInt_enc (h a ha) t false) t
theorem rTexts_enc {l : List Bytes} (hl : l.length ≤ 9223372036854775807) (h : ∀ a ∈ l, a.length ≤ 9223372036854775807) (t : Bytes) : rTexts (encTexts l ++ t, false) = (l, (t, false)) :=
  rList_enc rText encText l hl (fun a ha t => rText_enc (h a ha) t false rfl) t
/-! what is read was so encoded: a reader that is good behind was good before, and what it ate is the encoding -/
theorem number_good {e : UInt8} {least n : Int} {r : Rd} {t : Bytes} (he : 57 < e.toNat) (h : number e least r = (n, (t, false))) : r = (itoa n ++ e :: t, false) ∧ least ≤ n ∧ isInt n := by
  unfold number at h
  split at h
  · rename_i m u hr
    obtain ⟨h1, h2, h3⟩ := (rdNum_some he).1 hr
    simp only [Prod.mk.injEq] at h
    obtain ⟨rfl, rfl, hb⟩ := h
    exact ⟨Prod.ext h1 hb, h2, h3⟩
  · simp [failed] at h
theorem close_good {e : UInt8} {r : Rd} {t : Bytes} (h : close e r = (t, false)) : r = (e :: t, false) := by
  obtain ⟨l, b⟩ := r
  unfold close at h
  cases l with
  | nil => simp [failed] at h
  | cons c u =>
    simp only at h
    split at h
    · rename_i hc
      simp only [Prod.mk.injEq] at h
      obtain ⟨rfl, rfl⟩ := h
      rw [hc]
    · simp [failed] at h
theorem rInt_good {n : Int} {r : Rd} {t : Bytes} (h : rInt r = (n, (t, false))) : r = (encInt n ++ t, false) ∧ isInt n := by
  obtain ⟨h1, _, h3⟩ := number_good (by decide) h
  exact ⟨by rw [h1]; simp [encInt], h3⟩
theorem rNum_good {n : Int} {r : Rd} {t : Bytes} (h : rNum r = (n, (t, false))) : r = (encNum n ++ t, false) ∧ isInt n ∧ 0 ≤ n := by
  obtain ⟨h1, h2, h3⟩ := number_good (by decide) h
  exact ⟨by rw [h1, encNum, if_neg (by omega)]; simp [encInt], h3, h2⟩
theorem rText_good {s : Bytes} {r : Rd} {t : Bytes} (h : rText r = (s, (t, false))) : r = (encText s ++ t, false) ∧ (s.length : Int) ≤ 9223372036854775807 := by
  unfold rText at h
  generalize hp : number 58 0 r = p at h
  obtain ⟨n, u, b⟩ := p
  simp only at h
  split at h
  · simp [failed] at h
  · rename_i hl
    simp only [Prod.mk.injEq] at h
    obtain ⟨h1, h2⟩ := h
    rw [h2] at h1
    simp only [Bool.false_eq_true, if_false] at h1
    have h3 := close_good h2
    simp only [Prod.mk.injEq] at h3
    obtain ⟨h3, rfl⟩ := h3
    obtain ⟨h4, h5, h6⟩ := number_good (by decide) hp
    have h7 : (s.length : Int) = n := by rw [← h1, List.length_take]; omega
    refine ⟨?_, by have := h6.2; omega⟩
    rw [h4, encText, h7]
    have : u = s ++ 44 :: t := by rw [← h1, ← h3, List.take_append_drop]
    rw [this]; simp
theorem rMany_good {α : Type} (one : Rd → α × Rd) (enc : α → Bytes) (h1 : ∀ r a t, one r = (a, (t, false)) → r = (enc a ++ t, false)) : ∀ (n : Nat) (r : Rd) (l : List α) (t : Bytes), rMany one n r = (l, (t, false)) → r = ((l.map enc).flatten ++ t, false) ∧ l.length = n := by
  intro n
  induction n with
  | zero =>
    intro r l t h
    simp only [rMany, Prod.mk.injEq] at h
    obtain ⟨rfl, rfl⟩ := h
    simp
  | succ n ih =>
    intro r l t h
    simp only [rMany] at h
    split at h
    · rename_i hb
      simp only [Prod.mk.injEq] at h
      obtain ⟨rfl, rfl⟩ := h
      simp at hb
    · generalize hp : one r = p at h
      obtain ⟨a, r1⟩ := p
      simp only at h
      generalize hq : rMany one n r1 = q at h
      obtain ⟨l1, r2⟩ := q
      simp only [Prod.mk.injEq] at h
      obtain ⟨rfl, rfl⟩ := h
      obtain ⟨rfl, hl⟩ := ih r1 l1 t hq
      have := h1 r a _ hp
      rw [this]
      simp [hl]
theorem rList_good {α : Type} (one : Rd → α × Rd) (enc : α → Bytes) (h1 : ∀ r a t, one r = (a, (t, false)) → r = (enc a ++ t, false)) {r : Rd} {l : List α} {t : Bytes} (h : rList one r = (l, (t, false))) : r = ((itoa l.length ++ 91 :: ((l.map enc).flatten ++ [93])) ++ t, false) ∧ (l.length : Int) ≤ 9223372036854775807 := by
  unfold rList at h
  generalize hp : number 91 0 r = p at h
  obtain ⟨n, r1⟩ := p
  simp only at h
  generalize hq : rMany one n.toNat r1 = q at h
  obtain ⟨l1, r2⟩ := q
  simp only [Prod.mk.injEq] at h
  obtain ⟨h2, h3⟩ := h
  rw [h3] at h2
  simp only [Bool.false_eq_true, if_false] at h2
  subst h2
  have h4 := close_good h3
  subst h4
  obtain ⟨rfl, hl⟩ := rMany_good one enc h1 _ _ _ _ hq
  obtain ⟨rfl, h5, h6⟩ := number_good (by decide) hp
  have h7 : (l1.length : Int) = n := by omega
  rw [h7]
  exact ⟨by simp, h6.2⟩
theorem rNums_good {l : List Int} {r : Rd} {t : Bytes} (h : rNums r = (l, (t, false))) : r = (encNums l ++ t, false) ∧ (l.length : Int) ≤ 9223372036854775807 :=
  rList_good rInt encInt (fun _ _ _ h => (rInt_good h).1) h
theorem rTexts_good {l : List Bytes} {r : Rd} {t : Bytes} (h : rTexts r = (l, (t, false))) : r = (encTexts l ++ t, false) ∧ (l.length : Int) ≤ 9223372036854775807 :=
  rList_good rText encText (fun _ _ _ h => (rText_good h).1) h
/-! a reader that has failed has nothing left -/
def Ok (r : Rd) : Prop := r.2 = true → r.1 = []
theorem number_ok {e : UInt8} {least : Int} {r : Rd} (h : Ok r) : Ok (number e least r).2 := by
  unfold number
  split
  · rename_i n t hr
    intro hb
    have := h hb
    rw [this] at hr
    have : rdNum e least [] = none := by simp [rdNum, scan]
    simp_all
  · intro _; rfl
theorem close_ok {e : UInt8} {r : Rd} (h : Ok r) : Ok (close e r) := by
  unfold close
  split
  · intro _; rfl
  · rename_i c t hr
    split
    · intro hb; have := h hb; rw [hr] at this; cases this
    · intro _; rfl
theorem rInt_ok {r : Rd} (h : Ok r) : Ok (rInt r).2 := number_ok h
theorem rNum_ok {r : Rd} (h : Ok r) : Ok (rNum r).2 := number_ok h
theorem rText_ok {r : Rd} (h : Ok r) : Ok (rText r).2 := by
  have h1 := number_ok (e := 58) (least := 0) h
  unfold rText
  simp only
  split
  · intro _; rfl
  · refine close_ok ?_
    intro hb
    rw [h1 hb]; simp
theorem rMany_ok {α : Type} (one : Rd → α × Rd) (h1 : ∀ r, Ok r → Ok (one r).2) : ∀ n r, Ok r → Ok (rMany one n r).2 := by
  intro n
  induction n with
  | zero => intro r h; exact h
  | succ n ih =>
    intro r h
    simp only [rMany]
    split
    · exact h
    · exact ih _ (h1 _ h)
theorem rList_ok {α : Type} (one : Rd → α × Rd) (h1 : ∀ r, Ok r → Ok (one r).2) {r : Rd} (h : Ok r) : Ok (rList one r).2 := by
  unfold rList
  exact close_ok (rMany_ok one h1 _ _ (number_ok h))
theorem rNums_ok {r : Rd} (h : Ok r) : Ok (rNums r).2 := rList_ok _ (fun _ h => rInt_ok h) h
theorem rTexts_ok {r : Rd} (h : Ok r) : Ok (rTexts r).2 := rList_ok _ (fun _ h => rText_ok h) h
/-! strings.IndexByte in these words -/
theorem indexByte_eq (l : Bytes) (c : UInt8) : indexByte l c = if (l.takeWhile (· ≠ c)).length < l.length then ((l.takeWhile (· ≠ c)).length : Int) else -1 := by
  induction l with
  | nil => rfl
  | cons b l ih =>
    unfold indexByte
    by_cases hb : b = c
    · subst hb
      simp
    · have hbc : (b == c) = false := by simpa using hb
      rw [hbc, ih]
      simp only [Bool.false_eq_true, if_false, List.takeWhile_cons, ne_eq, hb, not_false_eq_true, decide_true, if_true, List.length_cons]
      split
      · rw [if_neg (by simp), if_pos (by omega)]; simp
      · rw [if_pos (by simp), if_neg (by omega)]
theorem scan_none {e : UInt8} {r : Bytes} (h : scan e r = none) : indexByte (r.take 21) e = -1 := by
  rw [indexByte_eq]
  unfold scan at h
  simp only at h
  split at h
  · cases h
  · rename_i hn
    rw [if_neg hn]
theorem scan_index {e : UInt8} {r h t : Bytes} (hs : scan e r = some (h, t)) : indexByte (r.take 21) e = (h.length : Int) ∧ (r.take 21).take h.length = h ∧ r.drop (h.length + 1) = t ∧ h.length ≤ 20 ∧ h.length < r.length := by
  rw [indexByte_eq]
  have hs2 := scan_some.1 hs
  unfold scan at hs
  simp only at hs
  split at hs
  · rename_i hl
    obtain ⟨rfl, rfl⟩ := Prod.mk.inj (Option.some.inj hs)
    rw [if_pos hl]
    refine ⟨rfl, (takeWhile_pre _ _).symm, rfl, hs2.2.1, ?_⟩
    rw [List.length_take] at hl
    omega
  · cases hs
theorem number_none {e : UInt8} {least : Int} {r : Rd} (h : rdNum e least r.1 = none) : number e least r = (0, failed) := by unfold number; rw [h]
theorem number_some {e : UInt8} {least n : Int} {r : Rd} {t : Bytes} (h : rdNum e least r.1 = some (n, t)) : number e least r = (n, (t, r.2)) := by unfold number; rw [h]
theorem number_nonneg (e : UInt8) (r : Rd) : 0 ≤ (number e 0 r).1 := by
  unfold number
  split
  · rename_i n t hr
    unfold rdNum at hr
    split at hr
    · cases hr
    · split at hr
      · split at hr
        · rename_i hc
          obtain ⟨rfl, _⟩ := Prod.mk.inj (Option.some.inj hr)
          exact hc.2
        · cases hr
      · cases hr
  · exact Int.le_refl _
theorem number_le (e : UInt8) (he : 57 < e.toNat) (least : Int) (r : Rd) : (number e least r).2.1.length ≤ r.1.length ∧ ((number e least r).2.2 = false → r.2 = false ∧ (number e least r).2.1.length + 2 ≤ r.1.length) := by
  unfold number
  split
  · rename_i n t hr
    have := rdNum_length he hr
    exact ⟨by simp only; omega, fun h => ⟨h, this⟩⟩
  · exact ⟨Nat.zero_le _, fun h => by cases h⟩
theorem number_max (e : UInt8) (least : Int) (r : Rd) : (number e least r).1 ≤ 9223372036854775807 := by
  unfold number
  split
  · rename_i n t hr
    unfold rdNum at hr
    split at hr
    · cases hr
    · split at hr
      · rename_i m hm
        split at hr
        · obtain ⟨rfl, _⟩ := Prod.mk.inj (Option.some.inj hr)
          exact (atoiAll_bounds hm).2
        · cases hr
      · cases hr
  · decide
theorem close_le (e : UInt8) (r : Rd) : (close e r).1.length ≤ r.1.length ∧ ((close e r).2 = false → r.2 = false ∧ (close e r).1.length + 1 ≤ r.1.length) := by
  unfold close
  split
  · exact ⟨Nat.zero_le _, fun h => by cases h⟩
  · rename_i c t hr
    split
    · rw [hr]; exact ⟨by simp, fun h => ⟨h, by simp⟩⟩
    · exact ⟨Nat.zero_le _, fun h => by cases h⟩
theorem rText_le (r : Rd) : (rText r).2.1.length ≤ r.1.length ∧ ((rText r).2.2 = false → r.2 = false ∧ (rText r).2.1.length + 2 ≤ r.1.length) := by
  have h1 := number_le 58 (by decide) 0 r
  unfold rText
  simp only
  split
  · exact ⟨Nat.zero_le _, fun h => by cases h⟩
  · generalize hq : ((number 58 0 r).2.1.drop (number 58 0 r).1.toNat, (number 58 0 r).2.2) = q
    have hq1 : q.1.length ≤ (number 58 0 r).2.1.length := by rw [← hq]; simp
    have hq2 : q.2 = (number 58 0 r).2.2 := by rw [← hq]
    have h2 := close_le 44 q
    refine ⟨Nat.le_trans h2.1 (Nat.le_trans hq1 h1.1), fun h => ?_⟩
    have h3 := h2.2 h
    rw [hq2] at h3
    have h4 := h1.2 h3.1
    refine ⟨h4.1, ?_⟩
    show (close 44 q).1.length + 2 ≤ _
    omega
theorem rMany_end {α : Type} (one : Rd → α × Rd) (m : Nat) (r : Rd) (h : m = 0 ∨ r.2 = true) : rMany one m r = ([], r) := by
  cases m with
  | zero => rfl
  | succ m =>
    rcases h with h | h
    · cases h
    · simp [rMany, h]
theorem rMany_succ {α : Type} (one : Rd → α × Rd) (m : Nat) (u : Bytes) {x : α} {r1 : Rd} (h : one (u, false) = (x, r1)) : rMany one (m + 1) (u, false) = (x :: (rMany one m r1).1, (rMany one m r1).2) := by
  simp [rMany, h]
end Go.Proofs.YtdgbfaflepiagaaDoor.WireMath
