/- What the reference's reader gives: the same as wire's. Over the print's functions, no program in sight. -/
import Derived.Test.YtphcihbffiggbaaGreatDoorWireWIRt
import Derived.Test.YtphcihbffiggbaaGreatDoorPRtx12
import Derived.Test.YtphcihbffiggbaaGreatDoorPRtx13
namespace Go.Proofs.YtphcihbffiggbaaGreatDoor.WireQRt
open Go.RowKit Go.Proofs.YtphcihbffiggbaaGreatDoor.PRt Go.Proofs.YtphcihbffiggbaaGreatDoorW.PrintWords Go.Proofs.YtphcihbffiggbaaGreatDoorW.PrintLast Go.Proofs.YtphcihbffiggbaaGreatDoorW.PrintMore Go.Proofs.YtphcihbffiggbaaGreatDoor.WireMath Go.Proofs.YtphcihbffiggbaaGreatDoor.WireWRt Go.Proofs.YtphcihbffiggbaaGreatDoor.WireB
set_option linter.unusedVariables false
theorem ev_one {α : Type} {g : Nat → Option α} {a b : α} (ha : Ev g a) (hb : Ev g b) : a = b := by
  obtain ⟨K, hK⟩ := ha
  obtain ⟨L, hL⟩ := hb
  have h1 := hK (max K L) (Nat.le_max_left _ _)
  have h2 := hL (max K L) (Nat.le_max_right _ _)
  exact Option.some.inj (h1.symm.trans h2)
theorem bt_b (l : Bytes) (i : Nat) (h : i < l.length) : bt (B l) (i : Int) = (l[i].toNat : Int) := by
  unfold bt
  rw [dif_pos (show (i : Int).toNat < (B l).size by rw [b_size]; omega)]
  rfl
theorem wrap_int (x : Int) : isInt (wrap64 x) := by unfold isInt wrap64; omega
def val (l : Bytes) : Nat := l.foldl (fun a c => 10 * a + (c.toNat - 48)) 0
theorem val_snoc (l : Bytes) (c : UInt8) : val (l ++ [c]) = 10 * val l + (c.toNat - 48) := by simp [val]
theorem val_dec (u : Nat) : val (Lib.decDigits u) = u := by
  induction u using Nat.strongRecOn with
  | _ u ih =>
    rw [Lib.decDigits]
    split
    · rename_i h
      have := digit_byte h
      simp only [val, List.foldl_cons, List.foldl_nil, this]
      omega
    · rename_i h
      have := digit_byte (u := u % 10) (by omega)
      rw [val_snoc, ih (u / 10) (by omega), this]
      omega
theorem val_take (l : Bytes) (j : Nat) (hj : j < l.length) : val (l.take (j + 1)) = 10 * val (l.take j) + (l[j].toNat - 48) := by
  rw [List.take_succ_eq_append_getElem hj, val_snoc]
theorem val_le (l : Bytes) : ∀ (d j : Nat), l.length - j = d → j ≤ l.length → val (l.take j) ≤ val l := by
  intro d
  induction d with
  | zero => intro j hd hj; rw [List.take_of_length_le (by omega)]; exact Nat.le_refl _
  | succ d ih =>
    intro j hd hj
    have h1 := ih (j + 1) (by omega) (by omega)
    rw [val_take l j (by omega)] at h1
    omega
theorem back_digits (s ds : Bytes) (m : Int) (x4 u : Nat) (hs : s = Lib.itoa m) (hm : isInt m) (hd : ds = Lib.decDigits u) (hu : u ≤ 9223372036854775808) (hsd : s.drop x4 = ds) (hx : x4 = 0 ∧ m = (u : Int) ∨ x4 = 1 ∧ m = -(u : Int)) : ∀ (d j : Nat), ds.length - j = d → j ≤ ds.length →
    Ev (fun k => taquinref01_Back.l0 k (B s) (x4 : Int) (-(val (ds.take j) : Int)) ((x4 + j : Nat) : Int)) (m, true) := by
  have hlen := (itoa_length hm).2
  rw [← hs] at hlen
  have hsl : s.length = x4 + ds.length := by
    have h1 := congrArg List.length hsd
    rw [List.length_drop] at h1
    have h2 := dec_ne_nil u
    rw [← hd] at h2
    have := List.length_pos_iff.2 h2
    omega
  intro d
  induction d with
  | zero =>
    intro j hd2 hj
    have hval : val (ds.take j) = u := by rw [List.take_of_length_le (by omega), hd, val_dec]
    have heq : (B (encInt m)).toList = (B s ++ (⟨#[59]⟩ : ByteArray)).toList := by
      rw [show (⟨#[59]⟩ : ByteArray) = B [59] from rfl, b_append, b_toList, b_toList, hs]; rfl
    have hm1 := hm.1
    have hm2 := hm.2
    rcases hx with ⟨rfl, rfl⟩ | ⟨rfl, rfl⟩
    · refine Ev.step (f := fun k => (taquinref01_Int.f k (u : Int)).bind fun t148 => (if (B s).size + 1 ≤ 9223372036854775807 then (some ((u : Int), (t148.toList == (B s ++ (⟨#[59]⟩ : ByteArray)).toList))) else (none))) (fun k => ?_) ?_
      · simp only [taquinref01_Back.l0]
        rw [if_neg (by rw [b_size]; omega), if_pos (by rfl), hval, w64 (x := -(-(u : Int))) (by omega) (by omega), Int.neg_neg]
      · refine Ev.bind (ref_int_ev hm) ?_
        refine Ev.congr (fun k => if_pos (by rw [b_size]; omega)) ?_
        rw [heq, beq_self_eq_true]
        exact Ev.now _
    · refine Ev.step (f := fun k => (taquinref01_Int.f k (-(u : Int))).bind fun t149 => (if (B s).size + 1 ≤ 9223372036854775807 then (some (-(u : Int), (t149.toList == (B s ++ (⟨#[59]⟩ : ByteArray)).toList))) else (none))) (fun k => ?_) ?_
      · simp only [taquinref01_Back.l0]
        rw [if_neg (by rw [b_size]; omega), if_neg (by decide), hval]
      · refine Ev.bind (ref_int_ev hm) ?_
        refine Ev.congr (fun k => if_pos (by rw [b_size]; omega)) ?_
        rw [heq, beq_self_eq_true]
        exact Ev.now _
  | succ d ih =>
    intro j hd2 hj
    have hlt : j < ds.length := by omega
    have hlt2 : x4 + j < s.length := by omega
    have hc : s[x4 + j] = ds[j] := by
      have : (s.drop x4)[j]'(by rw [hsd]; exact hlt) = ds[j] := by simp only [hsd]
      rw [← this, List.getElem_drop]
    have hdig := dec_digits u ds[j] (by rw [← hd]; exact List.getElem_mem hlt)
    have hv := val_take ds j hlt
    have hvl := val_le ds _ (j + 1) rfl (by omega)
    have hu2 : val ds = u := by rw [hd, val_dec]
    refine Ev.step (f := fun k => taquinref01_Back.l0 k (B s) (x4 : Int) (-(val (ds.take (j + 1)) : Int)) ((x4 + (j + 1) : Nat) : Int)) (fun k => ?_) (ih (j + 1) (by omega) (by omega))
    simp only [taquinref01_Back.l0]
    rw [if_pos (by rw [b_size]; omega), if_pos (by omega), bt_b s (x4 + j) hlt2, hc, if_neg (by omega), if_neg (by omega), if_neg (by omega)]
    have e1 : wrap64 (wrap64 (10 * -(val (ds.take j) : Int)) - (((ds[j].toNat : Int) - 48) % 256)) = -(val (ds.take (j + 1)) : Int) := by
      rw [w64 (x := 10 * -(val (ds.take j) : Int)) (by omega) (by omega), w64 (by omega) (by omega)]
      omega
    have e2 : wrap64 (((x4 + j : Nat) : Int) + 1) = ((x4 + (j + 1) : Nat) : Int) := by rw [w64 (by omega) (by omega)]; omega
    rw [e1, e2]
theorem back_any (s : Bytes) (hs : s.length ≤ 1000000) (x4 : Int) : ∀ (d i : Nat) (x5 : Int), s.length - i = d → i ≤ s.length → isInt x5 → ∃ n c, Ev (fun k => taquinref01_Back.l0 k (B s) x4 x5 (i : Int)) (n, c) ∧ (c = true → s = Lib.itoa n ∧ isInt n) := by
  have fin : ∀ n : Int, ((B (encInt n)).toList == (B s ++ (⟨#[59]⟩ : ByteArray)).toList) = true → s = Lib.itoa n := by
    intro n h
    rw [show (⟨#[59]⟩ : ByteArray) = B [59] from rfl, b_append, b_toList, b_toList, beq_iff_eq] at h
    exact (List.append_cancel_right h).symm
  intro d
  induction d with
  | zero =>
    intro i x5 hd hi hx
    by_cases h4 : x4 = 0
    · refine ⟨wrap64 (-x5), (B (encInt (wrap64 (-x5)))).toList == (B s ++ (⟨#[59]⟩ : ByteArray)).toList, Ev.step (f := fun k => (taquinref01_Int.f k (wrap64 (-x5))).bind fun t148 => (if (B s).size + 1 ≤ 9223372036854775807 then (some (wrap64 (-x5), (t148.toList == (B s ++ (⟨#[59]⟩ : ByteArray)).toList))) else (none))) (fun k => ?_) ?_, fun h => ⟨fin _ h, wrap_int _⟩⟩
      · simp only [taquinref01_Back.l0]
        rw [if_neg (by rw [b_size]; omega), if_pos h4]
      · refine Ev.bind (ref_int_ev (wrap_int _)) ?_
        exact Ev.congr (fun k => if_pos (by rw [b_size]; omega)) (Ev.now _)
    · refine ⟨x5, (B (encInt x5)).toList == (B s ++ (⟨#[59]⟩ : ByteArray)).toList, Ev.step (f := fun k => (taquinref01_Int.f k x5).bind fun t149 => (if (B s).size + 1 ≤ 9223372036854775807 then (some (x5, (t149.toList == (B s ++ (⟨#[59]⟩ : ByteArray)).toList))) else (none))) (fun k => ?_) ?_, fun h => ⟨fin _ h, hx⟩⟩
      · simp only [taquinref01_Back.l0]
        rw [if_neg (by rw [b_size]; omega), if_neg h4]
      · refine Ev.bind (ref_int_ev hx) ?_
        exact Ev.congr (fun k => if_pos (by rw [b_size]; omega)) (Ev.now _)
  | succ d ih =>
    intro i x5 hd hi hx
    have hlt : i < s.length := by omega
    have stop : ∀ g : Nat → Option (Int × Bool), (∀ k, g (k + 1) = some (0, false)) → ∃ n c, Ev g (n, c) ∧ (c = true → s = Lib.itoa n ∧ isInt n) :=
      fun g h => ⟨0, false, Ev.step (f := fun k => some (0, false)) h (Ev.now _), fun h => by cases h⟩
    by_cases c1 : bt (B s) (i : Int) < 48
    · refine stop _ (fun k => ?_)
      simp only [taquinref01_Back.l0]
      rw [if_pos (by rw [b_size]; omega), if_pos (by omega), if_pos c1]
    by_cases c2 : bt (B s) (i : Int) > 57
    · refine stop _ (fun k => ?_)
      simp only [taquinref01_Back.l0]
      rw [if_pos (by rw [b_size]; omega), if_pos (by omega), if_neg c1, if_pos c2]
    by_cases c3 : (i : Int) > 20
    · refine stop _ (fun k => ?_)
      simp only [taquinref01_Back.l0]
      rw [if_pos (by rw [b_size]; omega), if_pos (by omega), if_neg c1, if_neg c2, if_pos c3]
    obtain ⟨n, c, hE, hc⟩ := ih (i + 1) (wrap64 ((wrap64 (10 * x5)) - (((bt (B s) (i : Int)) - 48) % 256))) (by omega) (by omega) (wrap_int _)
    refine ⟨n, c, Ev.step (fun k => ?_) hE, hc⟩
    simp only [taquinref01_Back.l0]
    rw [if_pos (by rw [b_size]; omega), if_pos (by omega), if_neg c1, if_neg c2, if_neg c3, w64 (x := (i : Int) + 1) (by omega) (by omega)]
    rfl
theorem back_f (s : Bytes) : ∃ x4 : Nat, (x4 = 0 ∨ x4 = 1 ∧ 0 < s.length) ∧ (x4 = 1 ↔ ∃ t, s = 45 :: t) ∧ ∀ r, Ev (fun k => taquinref01_Back.l0 k (B s) (x4 : Int) 0 (x4 : Int)) r → Ev (fun k => taquinref01_Back.f k (B s)) r := by
  cases s with
  | nil =>
    refine ⟨0, .inl rfl, ⟨fun h => absurd h (by decide), fun ⟨t, h⟩ => nomatch h⟩, fun r h => ?_⟩
    unfold taquinref01_Back.f
    refine Ev.congr (fun k => if_neg (by rw [b_size]; simp)) ?_
    refine Ev.step (f := fun k => taquinref01_Back.j1 k (B []) 0) (fun k => by simp only [taquinref01_Back.j0, Bool.false_eq_true, if_false]) ?_
    exact Ev.step (fun k => by simp only [taquinref01_Back.j1]; rfl) h
  | cons c t =>
    have hb : bt (B (c :: t)) 0 = (c.toNat : Int) := bt_b (c :: t) 0 (by simp)
    have hf : ∀ r, Ev (fun k => taquinref01_Back.j0 k (B (c :: t)) 0 ((c.toNat : Int) == 45)) r → Ev (fun k => taquinref01_Back.f k (B (c :: t))) r := fun r h => by
      unfold taquinref01_Back.f
      refine Ev.congr (fun k => if_pos (by rw [b_size]; simp only [List.length_cons]; omega)) ?_
      refine Ev.congr (fun k => if_pos (by rw [b_size]; simp only [List.length_cons]; omega)) ?_
      rw [hb]
      exact h
    by_cases hc : c = 45
    · subst hc
      refine ⟨1, .inr ⟨rfl, by simp⟩, ⟨fun _ => ⟨t, rfl⟩, fun _ => rfl⟩, fun r h => hf r ?_⟩
      refine Ev.step (f := fun k => taquinref01_Back.j1 k (B (45 :: t)) 1) (fun k => by simp only [taquinref01_Back.j0]; rfl) ?_
      exact Ev.step (fun k => by simp only [taquinref01_Back.j1]; rfl) h
    · have hn : ((c.toNat : Int) == 45) = false := by
        rw [beq_eq_false_iff_ne]
        intro h
        exact hc (UInt8.toNat_inj.1 (by show c.toNat = 45; omega))
      refine ⟨0, .inl rfl, ⟨fun h => absurd h (by decide), fun ⟨t', h⟩ => absurd (List.cons.inj h).1 hc⟩, fun r h => hf r ?_⟩
      rw [hn]
      refine Ev.step (f := fun k => taquinref01_Back.j1 k (B (c :: t)) 0) (fun k => by simp only [taquinref01_Back.j0, Bool.false_eq_true, if_false]) ?_
      exact Ev.step (fun k => by simp only [taquinref01_Back.j1]; rfl) h
theorem back_ev (s : Bytes) (hs : s.length ≤ 1000000) : ∃ n c, Ev (fun k => taquinref01_Back.f k (B s)) (n, c) ∧ (c = true → s = Lib.itoa n ∧ isInt n) ∧ (∀ m, isInt m → s = Lib.itoa m → c = true) := by
  obtain ⟨x4, h4, h45, hf⟩ := back_f s
  obtain ⟨n, c, hE, hc⟩ := back_any s hs x4 (s.length - x4) x4 0 rfl (by omega) ⟨by omega, by omega⟩
  refine ⟨n, c, hf _ hE, hc, fun m hm hsm => ?_⟩
  have hm1 := hm.1
  have hm2 := hm.2
  have hE2 : Ev (fun k => taquinref01_Back.l0 k (B s) (x4 : Int) 0 (x4 : Int)) (m, true) := by
    by_cases hneg : m < 0
    · have he : Lib.itoa m = 45 :: Lib.decDigits m.natAbs := by unfold Lib.itoa; rw [if_pos hneg]
      have h1 : x4 = 1 := h45.2 ⟨_, hsm.trans he⟩
      subst h1
      exact back_digits s (Lib.decDigits m.natAbs) m 1 m.natAbs hsm hm rfl (by omega) (by rw [hsm, he]; rfl) (.inr ⟨rfl, by omega⟩) _ 0 rfl (Nat.zero_le _)
    · have he : Lib.itoa m = Lib.decDigits m.natAbs := by unfold Lib.itoa; rw [if_neg hneg, show m.toNat = m.natAbs by omega]
      have h0 : x4 = 0 := by
        rcases h4 with h | ⟨h, _⟩
        · exact h
        · obtain ⟨t, ht⟩ := h45.1 h
          have := dec_digits m.natAbs 45 (by rw [← he, ← hsm, ht]; exact List.mem_cons_self)
          simp at this
      subst h0
      exact back_digits s (Lib.decDigits m.natAbs) m 0 m.natAbs hsm hm rfl (by omega) (by rw [hsm, he]; rfl) (.inl ⟨rfl, by omega⟩) _ 0 rfl (Nat.zero_le _)
  exact congrArg Prod.snd (ev_one hE hE2)
abbrev least : Int := -9223372036854775808
abbrev Res (α : Type) := α × ByteArray × Bool
def out {α : Type} (p : α × Rd) : Res α := (p.1, B p.2.1, p.2.2)
theorem first_e {e : UInt8} {h t l : Bytes} {i : Nat} (hl : l = h ++ e :: t) (hne : ∀ c ∈ h, c ≠ e) (hi : ∀ (j : Nat) (hj : j < l.length), j < i → l[j] ≠ e) : i ≤ h.length ∧ ∀ (hj : i < l.length), l[i] = e → i = h.length := by
  subst hl
  have h1 : i ≤ h.length := by
    rcases Nat.lt_or_ge h.length i with hlt | hge
    · exact absurd (by simp) (hi h.length (by simp) hlt)
    · exact hge
  refine ⟨h1, fun hj he => ?_⟩
  rcases Nat.lt_or_ge i h.length with hlt | hge
  · rw [List.getElem_append_left hlt] at he
    exact absurd he (hne _ (List.getElem_mem hlt))
  · omega
theorem ahead_j1 (e : UInt8) (he : 57 < e.toNat) (l : Bytes) (b : Bool) (hl : l.length ≤ 1000000) (i : Nat) (hi : ∀ (j : Nat) (hj : j < l.length), j < i → l[j] ≠ e) (hle : i ≤ l.length) (hstop : i = l.length ∨ i = 21 ∨ ∃ hj : i < l.length, l[i] = e) :
    Ev (fun k => taquinref01_Reader_ahead.j1 k (e.toNat : Int) (i : Int) (B l) b) (out (number e least (l, b))) := by
  have none_of : (∀ n t, l = Lib.itoa n ++ e :: t → isInt n → False) → out (number e least (l, b)) = (0, B [], true) := by
    intro h
    rw [number_none]
    · rfl
    · cases hq : rdNum e least l with
      | none => rfl
      | some p =>
        obtain ⟨n, t⟩ := p
        obtain ⟨h1, _, h2⟩ := (rdNum_some he).1 hq
        exact absurd h2 (fun h2 => h n t h1 h2)
  by_cases c1 : i = l.length
  · rw [none_of (fun n t h1 h2 => by
      have := (first_e h1 (itoa_not he) hi).1
      have := congrArg List.length h1
      rw [List.length_append, List.length_cons] at this
      omega)]
    refine Ev.step (f := fun k => some (0, B [], true)) (fun k => ?_) (Ev.now _)
    simp only [taquinref01_Reader_ahead.j1]
    rw [if_pos (by rw [b_size]; omega)]
    rfl
  have hlt : i < l.length := by omega
  by_cases c2 : l[i] = e
  · obtain ⟨n, c, hE, hc1, hc2⟩ := back_ev (l.take i) (by rw [List.length_take]; omega)
    have hex : (B l).extract 0 ((i : Int)).toNat = B (l.take i) := by
      apply ByteArray.ext; rw [ByteArray.data_extract]; simp
    have hex2 : (B l).extract (((i + 1 : Nat) : Int)).toNat (B l).size = B (l.drop (i + 1)) := by
      apply ByteArray.ext; rw [ByteArray.data_extract, b_size]; simp [List.extract_eq_take_drop]
      rw [List.take_of_length_le (by simp)]
    have hsplit : l = l.take i ++ e :: l.drop (i + 1) := by
      conv => lhs; rw [← List.take_append_drop i l]
      rw [List.drop_eq_getElem_cons hlt, c2]
    refine Ev.step (f := fun k => (taquinref01_Back.f k (B (l.take i))).bind fun bt156 => (if bt156.2 = true then (if 0 ≤ ((i + 1 : Nat) : Int) then (if ((i + 1 : Nat) : Int) ≤ ((B l).size : Int) then (some (bt156.1, B (l.drop (i + 1)), b)) else (none)) else (none)) else (some (0, B [], true)))) (fun k => ?_) ?_
    · simp only [taquinref01_Reader_ahead.j1]
      rw [if_neg (by rw [b_size]; omega), if_pos (by omega), if_pos (by rw [b_size]; omega), bt_b l i hlt, if_pos (by rw [c2]), if_pos (by rw [b_size]; omega), hex, w64 (x := (i : Int) + 1) (by omega) (by omega)]
      rw [show (i : Int) + 1 = ((i + 1 : Nat) : Int) by omega, hex2]
      rfl
    · refine Ev.bind hE ?_
      cases c with
      | true =>
        obtain ⟨h1, h2⟩ := hc1 rfl
        refine Ev.congr (fun k => if_pos rfl) ?_
        refine Ev.congr (fun k => if_pos (by omega)) ?_
        refine Ev.congr (fun k => if_pos (by rw [b_size]; omega)) ?_
        have hr : rdNum e least l = some (n, l.drop (i + 1)) := (rdNum_some he).2 ⟨by rw [← h1]; exact hsplit, h2.1, h2⟩
        rw [number_some (r := (l, b)) hr]
        exact Ev.now _
      | false =>
        refine Ev.congr (fun k => if_neg (by simp)) ?_
        rw [none_of (fun m t h1 h2 => by
          have hf := (first_e h1 (itoa_not he) hi).2 hlt c2
          have : l.take i = Lib.itoa m := by rw [hf, h1]; simp
          have := hc2 m h2 this
          cases this)]
        exact Ev.now _
  · rw [none_of (fun n t h1 h2 => by
      have hf := (first_e h1 (itoa_not he) hi).1
      have hlen := (itoa_length h2).2
      rcases hstop with h | h | ⟨_, h⟩
      · exact c1 h
      · omega
      · exact c2 h)]
    refine Ev.step (f := fun k => some (0, B [], true)) (fun k => ?_) (Ev.now _)
    simp only [taquinref01_Reader_ahead.j1]
    rw [if_neg (by rw [b_size]; omega), if_pos (by omega), if_pos (by rw [b_size]; omega), bt_b l i hlt, if_neg (by intro h; exact c2 (UInt8.toNat_inj.1 (by omega)))]
    rfl
theorem ahead (e : UInt8) (he : 57 < e.toNat) (l : Bytes) (b : Bool) (hl : l.length ≤ 1000000) :
    Ev (fun k => taquinref01_Reader_ahead.f k (B l) b (e.toNat : Int)) (out (number e least (l, b))) := by
  have go : ∀ (d i : Nat), 21 - i = d → i ≤ 21 → i ≤ l.length → (∀ (j : Nat) (hj : j < l.length), j < i → l[j] ≠ e) → Ev (fun k => taquinref01_Reader_ahead.l0 k (e.toNat : Int) (i : Int) (B l) b) (out (number e least (l, b))) := by
    intro d
    induction d with
    | zero =>
      intro i hd hi hle hno
      refine Ev.step (fun k => ?_) (ahead_j1 e he l b hl i hno hle (.inr (.inl (by omega))))
      simp only [taquinref01_Reader_ahead.l0]
      by_cases h : (i : Int) < ((B l).size : Int)
      · rw [if_pos h, if_neg (by omega)]
      · rw [if_neg h]
    | succ d ih =>
      intro i hd hi hle hno
      by_cases c1 : i = l.length
      · refine Ev.step (fun k => ?_) (ahead_j1 e he l b hl i hno hle (.inl c1))
        simp only [taquinref01_Reader_ahead.l0]
        rw [if_neg (by rw [b_size]; omega)]
      have hlt : i < l.length := by omega
      by_cases c2 : l[i] = e
      · refine Ev.step (fun k => ?_) (ahead_j1 e he l b hl i hno hle (.inr (.inr ⟨hlt, c2⟩)))
        simp only [taquinref01_Reader_ahead.l0]
        rw [if_pos (by rw [b_size]; omega), if_pos (by omega), if_pos (by omega), bt_b l i hlt, if_pos (by rw [c2])]
      · refine Ev.step (fun k => ?_) (ih (i + 1) (by omega) (by omega) (by omega) (fun j hj hji => by
          rcases Nat.lt_or_ge j i with h | h
          · exact hno j hj h
          · have : j = i := by omega
            subst this
            exact c2))
        simp only [taquinref01_Reader_ahead.l0]
        rw [if_pos (by rw [b_size]; omega), if_pos (by omega), if_pos (by omega), bt_b l i hlt, if_neg (by intro h; exact c2 (UInt8.toNat_inj.1 (by omega))), w64 (x := (i : Int) + 1) (by omega) (by omega)]
        rfl
  exact go 21 0 rfl (by omega) (Nat.zero_le _) (fun j hj h => by omega)
theorem number_zero (e : UInt8) (he : 57 < e.toNat) (r : Rd) : number e 0 r = if (number e least r).1 < 0 then (0, failed) else number e least r := by
  cases hq : rdNum e least r.1 with
  | none =>
    have h0 : rdNum e 0 r.1 = none := by
      cases hz : rdNum e 0 r.1 with
      | none => rfl
      | some p =>
        obtain ⟨n, t⟩ := p
        obtain ⟨h1, h2, h3⟩ := (rdNum_some he).1 hz
        rw [(rdNum_some he).2 ⟨h1, h3.1, h3⟩] at hq
        cases hq
    rw [number_none h0, number_none hq]
    rfl
  | some p =>
    obtain ⟨n, t⟩ := p
    obtain ⟨h1, h2, h3⟩ := (rdNum_some he).1 hq
    rw [number_some hq]
    by_cases hn : n < 0
    · rw [if_pos hn]
      refine number_none ?_
      cases hz : rdNum e 0 r.1 with
      | none => rfl
      | some p =>
        obtain ⟨n', t'⟩ := p
        obtain ⟨h1', h2', h3'⟩ := (rdNum_some he).1 hz
        have := (rdNum_some (least := least) he).2 ⟨h1', h3'.1, h3'⟩
        rw [hq] at this
        obtain ⟨rfl, rfl⟩ := Prod.mk.inj (Option.some.inj this)
        omega
    · rw [if_neg hn]
      exact number_some ((rdNum_some he).2 ⟨h1, by omega, h3⟩)
theorem num_of (e : UInt8) (he : 57 < e.toNat) (l : Bytes) (b : Bool) (hl : l.length ≤ 1000000) :
    Ev (fun k => taquinref01_Reader_number.f k (B l) b (e.toNat : Int)) (out (number e 0 (l, b))) := by
  unfold taquinref01_Reader_number.f
  refine Ev.bind (ahead e he l b hl) ?_
  rw [number_zero e he]
  by_cases h : (number e least (l, b)).1 < 0
  · refine Ev.congr (fun k => if_pos h) ?_
    rw [if_pos h]
    exact Ev.now _
  · refine Ev.congr (fun k => if_neg h) ?_
    rw [if_neg h]
    exact Ev.now _
theorem int (l : Bytes) (b : Bool) (hl : l.length ≤ 1000000) : Ev (fun k => taquinref01_Reader_Int.f k (B l) b) (out (rInt (l, b))) := by
  unfold taquinref01_Reader_Int.f
  exact Ev.bind (ahead 59 (by decide) l b hl) (Ev.now _)
theorem close_ev (e : UInt8) (l : Bytes) (b : Bool) (hb : b = false) : ∃ c, taquinref01_Reader_close.f (B l) b (e.toNat : Int) = some (c, B (close e (l, b)).1, (close e (l, b)).2) ∧ c = !(close e (l, b)).2 := by
  subst hb
  unfold taquinref01_Reader_close.f
  cases l with
  | nil => exact ⟨false, by rw [if_pos (by rfl)]; rfl, rfl⟩
  | cons x t =>
    have hb : bt (B (x :: t)) 0 = (x.toNat : Int) := bt_b (x :: t) 0 (by simp)
    rw [if_neg (by rw [b_size]; simp only [List.length_cons]; omega), if_pos (by rw [b_size]; simp only [List.length_cons]; omega), hb]
    by_cases hx : x = e
    · subst hx
      refine ⟨true, ?_, by simp [close]⟩
      rw [if_pos rfl, if_pos (by rw [b_size]; simp only [List.length_cons]; omega)]
      have : (B (x :: t)).extract 1 (B (x :: t)).size = B t := by
        apply ByteArray.ext; rw [ByteArray.data_extract, b_size]; simp
      rw [this]
      simp [close]
    · refine ⟨false, ?_, by simp [close, hx, failed]⟩
      rw [if_neg (by intro h; exact hx (UInt8.toNat_inj.1 (by omega)))]
      simp [close, hx, failed, taquinref01_Reader_fail.f]
theorem nums_l0 (n : Int) (hn : n ≤ 9223372036854775807) : ∀ (d : Nat) (l : Bytes) (b : Bool) (xs : List Int) (i : Int), l.length + (if b then 0 else 1) = d → 0 ≤ i → Ok (l, b) → l.length ≤ 1000000 → xs.length + (if b then 0 else l.length + 1) ≤ 1000001 →
    Ev (fun k => taquinref01_Reader_Nums.l0 k n xs i (B l) b) (out (if (close 93 (rMany rInt (n - i).toNat (l, b)).2).2 then [] else xs ++ (rMany rInt (n - i).toNat (l, b)).1, close 93 (rMany rInt (n - i).toNat (l, b)).2)) := by
  intro d
  induction d using Nat.strongRecOn with
  | _ d ih =>
    intro l b xs i hd h0 hok hl hx
    cases b with
    | true =>
      obtain rfl : l = [] := hok rfl
      rw [rMany_end _ _ _ (.inr rfl)]
      refine Ev.step (f := fun k => some ([], B [], true)) (fun k => ?_) (Ev.now _)
      simp only [taquinref01_Reader_Nums.l0, if_true]
      split <;> rfl
    | false =>
      by_cases hi : i < n
      · have hm : (n - i).toNat = (n - (i + 1)).toNat + 1 := by omega
        generalize hp : rInt (l, false) = p
        obtain ⟨v, t, c⟩ := p
        have hle := number_le 59 (by decide) least (l, false)
        have hok2 : Ok (t, c) := by have := rInt_ok hok; rw [hp] at this; exact this
        rw [show number 59 least (l, false) = (v, (t, c)) from hp] at hle
        simp only at hle
        rw [hm, rMany_succ rInt _ l hp]
        have hlt : t.length + (if c then 0 else 1) < d := by
          cases c with
          | true => have := hok2 rfl; simp only at this; subst this; simp at hd ⊢; omega
          | false => have := (hle.2 rfl).2; simp at hd ⊢; omega
        have hx2 : (xs ++ [v]).length + (if c then 0 else t.length + 1) ≤ 1000001 := by
          rw [List.length_append, List.length_singleton]
          cases c with
          | true => simp at hx ⊢; omega
          | false => have := (hle.2 rfl).2; simp at hx ⊢; omega
        have := ih _ hlt t c (xs ++ [v]) (i + 1) rfl (by omega) hok2 (by omega) hx2
        rw [List.append_assoc, List.singleton_append] at this
        refine Ev.step (f := fun k => (taquinref01_Reader_Int.f k (B l) false).bind fun bt193 => (if xs.length < 17592186044416 then (taquinref01_Reader_Nums.l0 k n (xs ++ [bt193.1]) (i + 1) bt193.2.1 bt193.2.2) else (none))) (fun k => ?_) ?_
        · simp only [taquinref01_Reader_Nums.l0]
          rw [if_pos hi, if_neg (by simp), w64 (x := i + 1) (by omega) (by omega)]
        · refine Ev.bind (int l false hl) ?_
          rw [hp]
          refine Ev.congr (fun k => if_pos (by simp at hx; omega)) ?_
          exact this
      · have hm : (n - i).toNat = 0 := by omega
        rw [hm, rMany_end _ _ _ (.inl rfl)]
        obtain ⟨c, hc, hc2⟩ := close_ev 93 l false rfl
        refine Ev.step (f := fun k => some (out (if (close 93 (l, false)).2 then [] else xs ++ [], close 93 (l, false)))) (fun k => ?_) (Ev.now _)
        simp only [taquinref01_Reader_Nums.l0]
        rw [if_neg hi, if_neg (by simp), show (93 : Int) = ((93 : UInt8).toNat : Int) from rfl, hc, Option.bind_some, List.append_nil]
        cases hq : (close 93 (l, false)).2 with
        | true => simp [hc2, hq, out]
        | false => simp [hc2, hq, out]
theorem nums (l : Bytes) (b : Bool) (hl : l.length ≤ 1000000) (hok : Ok (l, b)) : Ev (fun k => taquinref01_Reader_Nums.f k (B l) b) (out (rNums (l, b))) := by
  unfold taquinref01_Reader_Nums.f rNums rList
  refine Ev.bind (num_of 91 (by decide) l b hl) ?_
  have h0 := number_nonneg 91 (l, b)
  have hx := number_max 91 0 (l, b)
  have hk := number_ok (e := 91) (least := 0) hok
  have hle := (number_le 91 (by decide) 0 (l, b)).1
  generalize hp : number 91 0 (l, b) = p at h0 hx hk hle
  obtain ⟨n, u, d⟩ := p
  simp only [out] at h0 hx hk hle ⊢
  have := nums_l0 n hx _ u d [] 0 rfl (by omega) hk (by omega) (by simp; split <;> omega)
  simpa [out] using this
theorem done (l : Bytes) (b : Bool) : taquinref01_Reader_Done.f (B l) b = some (!b && l.isEmpty, B l, b) := by
  unfold taquinref01_Reader_Done.f
  cases b
  · rw [if_neg (by simp), b_toList]
    cases l <;> rfl
  · rfl
end Go.Proofs.YtphcihbffiggbaaGreatDoor.WireQRt
