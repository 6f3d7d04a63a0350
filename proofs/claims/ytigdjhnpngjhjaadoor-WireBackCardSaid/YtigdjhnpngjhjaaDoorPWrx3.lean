-- written by a program of this claim's own (wip/tools/pp.py), after the kit's printer
import Derived.Test.YtigdjhnpngjhjaaDoorPWrx0
import Derived.Test.YtigdjhnpngjhjaaDoorPWrx1
import Derived.Test.YtigdjhnpngjhjaaDoorPWrx2
namespace Go.Proofs.YtigdjhnpngjhjaaDoor.PWr
open Go.RowKit Go.Proofs.YtigdjhnpngjhjaaDoorW.PrintWords Go.Proofs.YtigdjhnpngjhjaaDoorW.PrintLast Go.Proofs.YtigdjhnpngjhjaaDoorW.PrintMore
attribute [local go_sem] max2_int min2_int max_two min_two max_three min_three max_four min_four   -- for this text's walks alone
set_option linter.unusedVariables false
set_option linter.unusedSimpArgs false

/-! ### wire_Reader_Texts: function 39 -/
theorem wire_Reader_Texts.ba_extract (l : List UInt8) (i j : Nat) : (⟨l.toArray⟩ : ByteArray).extract i j = ⟨((l.drop i).take (j - i)).toArray⟩ := by
  apply ByteArray.ext
  rw [ByteArray.data_extract]
  simp [List.extract_eq_take_drop]
theorem wire_Reader_Texts.text_eq (l : List UInt8) (b : Bool) : wire_Reader_Text.f ⟨l.toArray⟩ b = some (⟨(WireMath.rText (l, b)).1.toArray⟩, ⟨(WireMath.rText (l, b)).2.1.toArray⟩, (WireMath.rText (l, b)).2.2) := by
  unfold wire_Reader_Text.f WireMath.rText
  rw [show (58 : Int) = ((58 : UInt8).toNat : Int) from rfl, wire_Reader_Nums.number_eq 58 (by decide)]
  simp only [Option.bind_some, wire_Reader_Nums.ba_size]
  have h0 : 0 ≤ (WireMath.number 58 0 (l, b)).1 := WireMath.number_nonneg _ _
  generalize hp : WireMath.number 58 0 (l, b) = p at h0
  obtain ⟨n, u, d⟩ := p
  simp only at h0 ⊢
  by_cases hn : n > (u.length : Int)
  · rw [if_pos hn, if_pos (by omega)]
    rfl
  · rw [if_neg hn, if_pos h0, if_pos (by omega)]
    rw [wire_Reader_Texts.ba_extract, wire_Reader_Texts.ba_extract, wire_Reader_Nums.close_eq]
    simp only [Option.bind_some]
    have h1 : ((u.drop n.toNat).take (u.length - n.toNat)) = u.drop n.toNat := List.take_of_length_le (by simp)
    rw [h1]
    simp only [List.drop_zero, Nat.sub_zero]
    split
    · rename_i h; rw [h]
      first | done | rfl
    · rename_i h
      simp only [Bool.not_eq_true] at h
      simp only [h, Bool.false_eq_true, if_false]
def wire_Reader_Texts.B (x : List UInt8) : ByteArray := ⟨x.toArray⟩
def wire_Reader_Texts.f (s0_0 : ByteArray) (s0_1 : Bool) : Option (List ByteArray × ByteArray × Bool) :=
  if s0_0.size ≤ 8796093022200 then some ((WireMath.rTexts (wire_Reader_number.rd s0_0 s0_1)).1.map wire_Reader_Texts.B, ⟨(WireMath.rTexts (wire_Reader_number.rd s0_0 s0_1)).2.1.toArray⟩, (WireMath.rTexts (wire_Reader_number.rd s0_0 s0_1)).2.2) else none
set_option maxHeartbeats 4000000 in
set_option maxRecDepth 100000 in
theorem wire_Reader_Texts.items (g : Nat) (l : List UInt8) (b : Bool) (w0 w : World) (hI : IsS189 w0 w g ⟨l.toArray⟩ b) (hB : Below w0.heap.size w0 w) (hT : Tabs w0) (hs : l.length ≤ 8796093022200) :
    Calls Tryd.prog 149 #[.pointer (some ⟨g, 0, none⟩), .func (.func 37) #[.pointer (some ⟨g, 0, none⟩)] #[]] w fun e w' => ∃ v0_ : Value, e = .returned v0_ ∧ Kd.R Kd.string 9 w' w.heap.size (fun _ => True) v0_ ((WireMath.rTexts (l, b)).1.map wire_Reader_Texts.B) ∧ IsS189 w0 w' g ⟨(WireMath.rTexts (l, b)).2.1.toArray⟩ (WireMath.rTexts (l, b)).2.2 ∧ Below w0.heap.size w0 w' ∧ KeepBut w w' g none := by
  obtain ⟨i0, hi0, hz0, hz1, hz2⟩ := info_parts info9
  have hgw := IsS189.lt hI
  have hww := hB.size
  have HI := Aside0.mk hI
  have HT := Aside0.mk hT
  have HB := Aside0.mk hB
  have HS := Aside0.mk hs
  have hle := (WireMath.number_le 91 (by decide) 0 (l, b))
  have hnn := WireMath.number_nonneg 91 (l, b)
  have hnx := WireMath.number_max 91 0 (l, b)
  have hnq := wire_Reader_Nums.number_eq 91 (by decide) 0 l b
  have hR : WireMath.rTexts (l, b) = (if (WireMath.close 93 (WireMath.rMany WireMath.rText (WireMath.number 91 0 (l, b)).1.toNat (WireMath.number 91 0 (l, b)).2).2).2 then [] else (WireMath.rMany WireMath.rText (WireMath.number 91 0 (l, b)).1.toNat (WireMath.number 91 0 (l, b)).2).1, WireMath.close 93 (WireMath.rMany WireMath.rText (WireMath.number 91 0 (l, b)).1.toNat (WireMath.number 91 0 (l, b)).2).2) := rfl
  generalize hp : WireMath.number 91 0 (l, b) = p at hle hnn hnx hnq hR
  obtain ⟨n, u, d⟩ := p
  simp only at hle hnn hnx hnq hR
  obtain ⟨m, rfl⟩ : ∃ m : Nat, n = m := ⟨n.toNat, by omega⟩
  rw [Int.toNat_natCast] at hR
  have HN := Aside0.mk hnq
  have HR := Aside0.mk hR
  have HL := Aside0.mk hle
  have HX := Aside0.mk (show m ≤ 9223372036854775807 by omega)
  clear hI hB hT hs hp hle hnn hnx hnq hR
  go_enter Tryd.func149, Tryd.ntmps149
  go_wp2_with fail
  refine (wire_Reader_number.calls g _ _ _ _ _ _ _ w0 _ HI.out HB.out HN.out HT.out).mono ?_
  rintro e w1 ⟨rfl, hi1, hb1, hk1⟩
  have HS1 : Aside0 (wire_Reader_number.St w0 w g ⟨u.toArray⟩ d w1) := ⟨⟨hi1, hb1, hk1⟩⟩
  clear hi1 hb1 hk1 HN
  go_wp2
  go_loopw [5, 6] (fun v5 v6 wr => ∃ (m' : Nat) (acc : List (List UInt8)) (u' : List UInt8) (d' : Bool), v6 = .int .i64 m' ∧ Aside0 (m' ≤ 9223372036854775807) ∧ Aside0 (wr.ownsRow w.heap.size 9 1 v5 acc.length ((acc.map wire_Reader_Texts.B).map Value.string)) ∧ Aside0 (wire_Reader_number.St w0 w g ⟨u'.toArray⟩ d' wr) ∧ Aside0 ((acc ++ (WireMath.rMany WireMath.rText m' (u', d')).1, (WireMath.rMany WireMath.rText m' (u', d')).2) = WireMath.rMany WireMath.rText m (u, d)) ∧ Aside0 (2 * acc.length ≤ l.length + 2 ∧ (d' = false → 2 * acc.length + u'.length ≤ l.length))) (fun _ v6 _ => (intOf v6).toNat)
  case atStart => exact ⟨m, [], u, d, rfl, HX, ⟨own_nil _ _ _ _⟩, HS1, ⟨by simp⟩, ⟨by simp, fun _ => by have := HL.out.1; simp; omega⟩⟩
  case round =>
    obtain ⟨m', acc, u', d', rfl, hmx, ho, hst, hq, hbd⟩ := hrel
    obtain ⟨hbk, _⟩ := hst.out.1
    have hc1 := cellS189_1 hbk
    have hc0 := cellS189_0 hbk
    clear hbk
    rcases (show m' = 0 ∨ (0 < m' ∧ d' = true) ∨ (0 < m' ∧ d' = false) by cases d' <;> simp <;> omega) with hm | ⟨hm, hd⟩ | ⟨hm, hd⟩
    · have HE := Aside0.mk (WireMath.rMany_end WireMath.rText m' (u', d') (.inl hm))
      have hm1 : ¬ (0 : Int) < (m' : Int) := by omega
      have hm2 : decide ((0 : Int) < (m' : Int)) = false := decide_eq_false hm1
      clear hm
      go_wp2_with fail
      obtain ⟨zu, zd, hz⟩ : ∃ zu zd, WireMath.close 93 (u', d') = (zu, zd) := ⟨_, _, rfl⟩
      have hcl := wire_Reader_Nums.close_eq u' d' 93
      rw [hz] at hcl
      have HC := Aside0.mk hcl
      have HF : Aside0 (WireMath.rTexts (l, b) = (if zd then [] else acc, (zu, zd))) := ⟨by rw [HR.out, ← hq.out, HE.out]; simp [hz]⟩
      clear hz hcl
      refine (wire_Reader_close.calls g _ _ _ _ _ w0 _ hst.out.1 hst.out.2.1 HC.out).mono ?_
      rintro e w2 ⟨rfl, hi2, hb2, hk2⟩
      have HO2 := Aside0.mk (wire_Reader_Nums.own_to hk2 ho.out hgw)
      have HS2 : Aside0 (wire_Reader_number.St w0 w g ⟨zu.toArray⟩ zd w2) := ⟨⟨hi2, hb2, hst.out.2.2.trans hk2 (.inl rfl)⟩⟩
      obtain ⟨hbk2, _⟩ := hi2
      have hc2 := cellS189_1 hbk2
      clear hbk2 hb2 hk2 ho hst hq hbd hc0 hc1
      cases zd with
      | true =>
        go_wp2
        go_ret
        refine ⟨_, rfl, ?_, ?_, HS2.out.2.1, HS2.out.2.2⟩
        · rw [HF.out]; exact Kd.R_nil _ _ _ _ _
        · rw [HF.out]; exact HS2.out.1
      | false =>
        go_wp2
        go_ret
        refine ⟨_, rfl, ?_, ?_, HS2.out.2.1, HS2.out.2.2⟩
        · rw [HF.out]; simp only [Bool.false_eq_true, if_false]; exact Kd.R_of_own (xs := acc.map wire_Reader_Texts.B) (by rw [List.length_map]; exact HO2.out) (fun _ _ => trivial)
        · rw [HF.out]; exact HS2.out.1
    · subst hd
      have HE := Aside0.mk (WireMath.rMany_end WireMath.rText m' (u', true) (.inr rfl))
      have hm1 : (0 : Int) < (m' : Int) := by omega
      have hm2 : decide ((0 : Int) < (m' : Int)) = true := decide_eq_true hm1
      go_wp2_with fail
      obtain ⟨zu, zd, hz⟩ : ∃ zu zd, WireMath.close 93 (u', true) = (zu, zd) := ⟨_, _, rfl⟩
      have hcl := wire_Reader_Nums.close_eq u' true 93
      rw [hz] at hcl
      have HC := Aside0.mk hcl
      have HF : Aside0 (WireMath.rTexts (l, b) = (if zd then [] else acc, (zu, zd))) := ⟨by rw [HR.out, ← hq.out, HE.out]; simp [hz]⟩
      clear hz hcl
      refine (wire_Reader_close.calls g _ _ _ _ _ w0 _ hst.out.1 hst.out.2.1 HC.out).mono ?_
      rintro e w2 ⟨rfl, hi2, hb2, hk2⟩
      have HO2 := Aside0.mk (wire_Reader_Nums.own_to hk2 ho.out hgw)
      have HS2 : Aside0 (wire_Reader_number.St w0 w g ⟨zu.toArray⟩ zd w2) := ⟨⟨hi2, hb2, hst.out.2.2.trans hk2 (.inl rfl)⟩⟩
      obtain ⟨hbk2, _⟩ := hi2
      have hc2 := cellS189_1 hbk2
      clear hbk2 hb2 hk2 ho hst hq hbd hc0 hc1
      cases zd with
      | true =>
        go_wp2
        go_ret
        refine ⟨_, rfl, ?_, ?_, HS2.out.2.1, HS2.out.2.2⟩
        · rw [HF.out]; exact Kd.R_nil _ _ _ _ _
        · rw [HF.out]; exact HS2.out.1
      | false =>
        go_wp2
        go_ret
        refine ⟨_, rfl, ?_, ?_, HS2.out.2.1, HS2.out.2.2⟩
        · rw [HF.out]; simp only [Bool.false_eq_true, if_false]; exact Kd.R_of_own (xs := acc.map wire_Reader_Texts.B) (by rw [List.length_map]; exact HO2.out) (fun _ _ => trivial)
        · rw [HF.out]; exact HS2.out.1
    · subst hd
      obtain ⟨m'', rfl⟩ : ∃ k, m' = k + 1 := ⟨m' - 1, by omega⟩
      have hm1 : (0 : Int) < ((m'' + 1 : Nat) : Int) := by omega
      have hm2 : decide ((0 : Int) < ((m'' + 1 : Nat) : Int)) = true := decide_eq_true hm1
      have hm3 : (m'' : Int) ≤ 9223372036854775806 := by have := hmx.out; omega
      have hm4 : (0 : Int) ≤ (m'' : Int) := Int.natCast_nonneg _
      have hlr := WireMath.rText_le (u', false)
      have hir := wire_Reader_Texts.text_eq u' false
      obtain ⟨x, u2, d2, hx⟩ : ∃ x u2 d2, WireMath.rText (u', false) = (x, (u2, d2)) := ⟨_, _, _, rfl⟩
      have hms := WireMath.rMany_succ WireMath.rText m'' u' hx
      rw [hx] at hir
      rw [hx] at hlr
      simp only at hir hlr
      have HIr := Aside0.mk hir
      have HQ : Aside0 (((acc ++ [x]) ++ (WireMath.rMany WireMath.rText m'' (u2, d2)).1, (WireMath.rMany WireMath.rText m'' (u2, d2)).2) = WireMath.rMany WireMath.rText m (u, d)) := ⟨by rw [← hq.out, hms]; simp⟩
      have HBD : Aside0 (2 * (acc ++ [x]).length ≤ l.length + 2 ∧ (d2 = false → 2 * (acc ++ [x]).length + u2.length ≤ l.length)) := ⟨by
        have h1 := hbd.out.2 rfl
        refine ⟨by simp; omega, fun h => ?_⟩
        have := (hlr.2 h).2
        simp; omega⟩
      have HSl := Aside0.mk (show acc.length + 1 ≤ 8796093022200 by have := hbd.out.2 rfl; have := HS.out; omega)
      clear hir hlr hx hms hq hbd
      go_wp2_with fail
      refine (wire_Reader_Text.calls g _ _ _ _ _ w0 _ hst.out.1 hst.out.2.1 HIr.out HT.out).mono ?_
      rintro e w2 ⟨rfl, hi2, hb2, hk2⟩
      have HO2 := Aside0.mk (wire_Reader_Nums.own_to hk2 ho.out hgw)
      have HS2 : Aside0 (wire_Reader_number.St w0 w g ⟨u2.toArray⟩ d2 w2) := ⟨⟨hi2, hb2, hst.out.2.2.trans hk2 (.inl rfl)⟩⟩
      clear hi2 hb2 hk2 ho hst HIr
      go_wp2_with (at_builtin; refine wpList_append_own _ rfl _ _ 23 rfl w.heap.size 9 i0 (.string ⟨#[]⟩) 1 16 Tryd.underlying23 hi0 hz0 hz1 hz2 rfl (by decide) _ _ _ rfl (HO2.out.alloc _) ⟨w2.heap.size, 0, none⟩ 1 1 [.string ⟨x.toArray⟩] rfl rfl ?c1 ?c2 ?c3 ?c4 ?c5 ?_)
      case c1 =>
        intro j u hj
        match j, hj with
        | 0, hj => simp at hj; subst hj; simp [Addr.add]
      case c2 => intro u hu; simp at hu; subst hu; rfl
      case c3 => have := HSl.out; unfold maxLen; omega
      case c4 => have := HSl.out; omega
      case c5 => have := HS2.out.2.2.1; simp; omega
      intro v' w3 hown' hgrow _
      have HO3 := Aside0.mk hown'
      have HS3 := Aside0.mk (wire_Reader_Nums.grow (HS2.out.on (below_alloc (Below.refl _ _) _)) hgrow (fun k hk => own_base HO2.out k hk) hww hgw)
      clear hown' hgrow
      go_wp2
      go_roundw
      case rel => exact ⟨m'', acc ++ [x], u2, d2, by go_num, ⟨by omega⟩, ⟨by simpa [wire_Reader_Texts.B] using HO3.out⟩, HS3, HQ, HBD⟩
      case measure => simp [intOf]
set_option maxHeartbeats 1000000 in
set_option maxRecDepth 100000 in
theorem wire_Reader_Texts.calls (g : Nat) (s0_0 : ByteArray) (s0_1 : Bool) (r1 : List ByteArray) (r2 : ByteArray) (r3 : Bool) (w0 w : World) (hI : IsS189 w0 w g s0_0 s0_1) (hB : Below w0.heap.size w0 w) (h : wire_Reader_Texts.f s0_0 s0_1 = some (r1, r2, r3)) (hT : Tabs w0) :
    Calls Tryd.prog 39 #[.pointer (some ⟨g, 0, none⟩)] w fun e w' => ∃ v0_ : Value, e = .returned (v0_) ∧ Kd.R Kd.string 9 w' w.heap.size (fun _ => True) v0_ r1 ∧ IsS189 w0 w' g r2 r3 ∧ Below w0.heap.size w0 w' ∧ KeepBut w w' g none := by
  unfold wire_Reader_Texts.f at h
  split at h
  · rename_i hs
    simp only [Option.some.injEq, Prod.mk.injEq] at h
    obtain ⟨rfl, rfl, rfl⟩ := h
    have H := Aside0.mk (wire_Reader_Texts.items g s0_0.data.toList s0_1 w0 w (by rw [wire_Reader_Nums.ba_eta]; exact hI) hB hT (by rw [Array.length_toList]; exact hs))
    clear hI hB hT hs
    go_enter Tryd.func39, Tryd.ntmps39
    go_wp2_with (go_at_call 149; refine H.out.mono ?_; rintro e w1 ⟨v0, rfl, hq⟩; have HQ := Aside0.mk hq; clear hq)
    go_ret
    exact ⟨_, rfl, HQ.out⟩
  · cases h

/-! ### taquinlaw01_WireAgain: function 4 -/
def taquinlaw01_WireAgain.j0 : Nat → ByteArray → Bool → ByteArray → ByteArray → Bool → Option (Bool)
  | 0, _, _, _, _, _ => none
  | k + 1, x0, x5, x7, x145000, x145001 => (wire_Reader_Left.f x145000 x145001).bind fun bt170 => (if bt170.1 = 0 then ((wire_Reader_Done.f bt170.2.1 bt170.2.2).bind fun bt173 => (if bt173.1 = true then ((wire_Reader_Left.f bt173.2.1 bt173.2.2).bind fun bt176 => (if x5 = true then (if (wrap64 ((x0.size : Int) - bt176.1)) ≥ 0 then (if (wrap64 ((x0.size : Int) - bt176.1)) ≤ (x0.size : Int) then (if 0 ≤ (mx 0 (mn (wrap64 ((x0.size : Int) - bt176.1)) (x0.size : Int))) then (if (mx 0 (mn (wrap64 ((x0.size : Int) - bt176.1)) (x0.size : Int))) ≤ (x0.size : Int) then (some (x7.toList == (x0.extract 0 ((mx 0 (mn (wrap64 ((x0.size : Int) - bt176.1)) (x0.size : Int))) : Int).toNat).toList)) else (none)) else (none)) else (none)) else (none)) else (none))) else (some x5))) else ((wire_Reader_Left.f bt170.2.1 bt170.2.2).bind fun bt179 => (if x5 = true then (if (wrap64 ((x0.size : Int) - bt179.1)) ≥ 0 then (if (wrap64 ((x0.size : Int) - bt179.1)) ≤ (x0.size : Int) then (if 0 ≤ (mx 0 (mn (wrap64 ((x0.size : Int) - bt179.1)) (x0.size : Int))) then (if (mx 0 (mn (wrap64 ((x0.size : Int) - bt179.1)) (x0.size : Int))) ≤ (x0.size : Int) then (some (x7.toList == (x0.extract 0 ((mx 0 (mn (wrap64 ((x0.size : Int) - bt179.1)) (x0.size : Int))) : Int).toNat).toList)) else (none)) else (none)) else (none)) else (none)) else (none))))
def taquinlaw01_WireAgain.f (k : Nat) (a0 : ByteArray) (a1 : Int) : Option (Bool) := (taquinlaw01_small.f k).bind fun t141 => (if (a0.size : Int) > 400 then (some t141) else ((wire_Open.f a0).bind fun bt142 => ((taquinlaw01_kind.f a1 0 (⟨#[]⟩ : ByteArray) ([] : List Int) ([] : List ByteArray)).bind fun t145 => (if t145 = 0 then ((wire_Reader_Num.f bt142.1 bt142.2).bind fun bt146 => ((wire_Num.f bt146.1).bind fun t149 => (taquinlaw01_WireAgain.j0 k a0 t141 t149 bt146.2.1 bt146.2.2))) else (if t145 = 1 then ((wire_Reader_Int.f bt142.1 bt142.2).bind fun bt150 => ((wire_Int.f bt150.1).bind fun t153 => (taquinlaw01_WireAgain.j0 k a0 t141 t153 bt150.2.1 bt150.2.2))) else (if t145 = 2 then ((wire_Reader_Text.f bt142.1 bt142.2).bind fun bt154 => ((wire_Text.f bt154.1).bind fun t157 => (taquinlaw01_WireAgain.j0 k a0 t141 t157 bt154.2.1 bt154.2.2))) else (if t145 = 3 then ((wire_Reader_Nums.f bt142.1 bt142.2).bind fun bt158 => ((wire_Nums.f bt158.1).bind fun t163 => (taquinlaw01_WireAgain.j0 k a0 t141 t163 bt158.2.1 bt158.2.2))) else ((wire_Reader_Texts.f bt142.1 bt142.2).bind fun bt164 => ((wire_Texts.f bt164.1).bind fun t169 => (taquinlaw01_WireAgain.j0 k a0 t141 t169 bt164.2.1 bt164.2.2))))))))))
theorem taquinlaw01_WireAgain.mono_l : ∀ k, (∀ y0 y1 y2 y3 y4, LeO (taquinlaw01_WireAgain.j0 k y0 y1 y2 y3 y4) (taquinlaw01_WireAgain.j0 (k + 1) y0 y1 y2 y3 y4))
  | 0 => fun _ _ _ _ _ r h => by simp [taquinlaw01_WireAgain.j0] at h
  | k + 1 => by
    have ih0 := taquinlaw01_WireAgain.mono_l k
    · intro y0 y1 y2 y3 y4
      unfold taquinlaw01_WireAgain.j0
      repeat' first
      | (with_reducible exact ih0 _ _ _ _ _)
      | (with_reducible exact taquinlaw01_small.mono _)
      | (with_reducible exact LeO.refl _)
      | (with_reducible exact LeO.none _)
      | (with_reducible refine LeO.ite ?_ ?_)
      | (with_reducible refine LeO.bind ?_ (fun _ => ?_))
      | exact ih0 _ _ _ _ _
      | exact taquinlaw01_small.mono _
      | exact LeO.none _
      | refine LeO.ite ?_ ?_
      | refine LeO.bind ?_ (fun _ => ?_)
theorem taquinlaw01_WireAgain.mono : ∀ a0 a1 k, LeO (taquinlaw01_WireAgain.f k a0 a1) (taquinlaw01_WireAgain.f (k + 1) a0 a1) := by
  intro a0 a1 k
  have ih0 := taquinlaw01_WireAgain.mono_l k
  unfold taquinlaw01_WireAgain.f
  repeat' first
      | (with_reducible exact ih0 _ _ _ _ _)
      | (with_reducible exact taquinlaw01_small.mono _)
      | (with_reducible exact LeO.refl _)
      | (with_reducible exact LeO.none _)
      | (with_reducible refine LeO.ite ?_ ?_)
      | (with_reducible refine LeO.bind ?_ (fun _ => ?_))
      | exact ih0 _ _ _ _ _
      | exact taquinlaw01_small.mono _
      | exact LeO.none _
      | refine LeO.ite ?_ ?_
      | refine LeO.bind ?_ (fun _ => ?_)
set_option maxHeartbeats 8000000 in
set_option maxRecDepth 100000 in
theorem taquinlaw01_WireAgain.calls (k : Nat) (a0 : ByteArray) (a1 : Int) (r : Bool) (w : World) (h : taquinlaw01_WireAgain.f k a0 a1 = some r) (hT : Tabs w) :
    Calls Tryd.prog 4 #[.string a0, .int .i64 a1] w fun e w' => e = .returned (.bool r) ∧ Below w.heap.size w w' := by
  have hu25 := Tryd.underlying25
  have HT := Aside0.mk hT
  clear hT
  have HB := Aside0.mk (Below.refl w.heap.size w)
  have H : ((taquinlaw01_small.f k).bind fun t141 => (if (a0.size : Int) > 400 then (some t141) else ((wire_Open.f a0).bind fun bt142 => ((taquinlaw01_kind.f a1 0 (⟨#[]⟩ : ByteArray) ([] : List Int) ([] : List ByteArray)).bind fun t145 => (if t145 = 0 then ((wire_Reader_Num.f bt142.1 bt142.2).bind fun bt146 => ((wire_Num.f bt146.1).bind fun t149 => (taquinlaw01_WireAgain.j0 k a0 t141 t149 bt146.2.1 bt146.2.2))) else (if t145 = 1 then ((wire_Reader_Int.f bt142.1 bt142.2).bind fun bt150 => ((wire_Int.f bt150.1).bind fun t153 => (taquinlaw01_WireAgain.j0 k a0 t141 t153 bt150.2.1 bt150.2.2))) else (if t145 = 2 then ((wire_Reader_Text.f bt142.1 bt142.2).bind fun bt154 => ((wire_Text.f bt154.1).bind fun t157 => (taquinlaw01_WireAgain.j0 k a0 t141 t157 bt154.2.1 bt154.2.2))) else (if t145 = 3 then ((wire_Reader_Nums.f bt142.1 bt142.2).bind fun bt158 => ((wire_Nums.f bt158.1).bind fun t163 => (taquinlaw01_WireAgain.j0 k a0 t141 t163 bt158.2.1 bt158.2.2))) else ((wire_Reader_Texts.f bt142.1 bt142.2).bind fun bt164 => ((wire_Texts.f bt164.1).bind fun t169 => (taquinlaw01_WireAgain.j0 k a0 t141 t169 bt164.2.1 bt164.2.2))))))))))) = some r := h
  clear h
  replace H := Option.bind_eq_some_iff.mp H
  obtain ⟨t141, A30, H⟩ := H
  replace H : (if (a0.size : Int) > 400 then (some t141) else ((wire_Open.f a0).bind fun bt142 => ((taquinlaw01_kind.f a1 0 (⟨#[]⟩ : ByteArray) ([] : List Int) ([] : List ByteArray)).bind fun t145 => (if t145 = 0 then ((wire_Reader_Num.f bt142.1 bt142.2).bind fun bt146 => ((wire_Num.f bt146.1).bind fun t149 => (taquinlaw01_WireAgain.j0 k a0 t141 t149 bt146.2.1 bt146.2.2))) else (if t145 = 1 then ((wire_Reader_Int.f bt142.1 bt142.2).bind fun bt150 => ((wire_Int.f bt150.1).bind fun t153 => (taquinlaw01_WireAgain.j0 k a0 t141 t153 bt150.2.1 bt150.2.2))) else (if t145 = 2 then ((wire_Reader_Text.f bt142.1 bt142.2).bind fun bt154 => ((wire_Text.f bt154.1).bind fun t157 => (taquinlaw01_WireAgain.j0 k a0 t141 t157 bt154.2.1 bt154.2.2))) else (if t145 = 3 then ((wire_Reader_Nums.f bt142.1 bt142.2).bind fun bt158 => ((wire_Nums.f bt158.1).bind fun t163 => (taquinlaw01_WireAgain.j0 k a0 t141 t163 bt158.2.1 bt158.2.2))) else ((wire_Reader_Texts.f bt142.1 bt142.2).bind fun bt164 => ((wire_Texts.f bt164.1).bind fun t169 => (taquinlaw01_WireAgain.j0 k a0 t141 t169 bt164.2.1 bt164.2.2)))))))))) = some r := H
  have A3 := Aside0.mk A30
  clear A30
  by_cases c4 : (a0.size : Int) > 400
  · rw [if_pos c4] at H
    have c4b0 : decide (400 < (a0.size : Int)) = true := decide_eq_true c4
    have c4b1 : decide (400 < a0.size) = true := decide_eq_true (by omega)
    clear c4
    obtain rfl := Option.some.inj H
    go_enter Tryd.func4, Tryd.ntmps4
    go_wp2_with (first | ((with_reducible refine gate_callee (f := 21) rfl ?_); refine goesL_ (some 9) rfl rfl Tryd.func21 (by kernel_rfl) rfl #[] rfl (by (try simp only [List.map_toArray, List.map_cons, List.map_nil]); first | done | rfl | (simp only [List.length_drop, List.length_take]; rfl)) ?_; (with_reducible refine (taquinlaw01_small.calls k  t141 _ A3.out (HT.out.below (by repeat (first | (with_reducible first | exact HB.out | apply below_alloc | apply pw_below_drewN | apply below_drew1) | exact HB.out)))).mono ?_); rintro e w5 ⟨rfl, hb⟩; refine ⟨_, rfl, ?_⟩; have n0_ := Aside0.mk (below_step (by repeat (first | (with_reducible first | exact HB.out | apply below_alloc | apply pw_below_drewN | apply below_drew1) | exact HB.out)) hb); clear HB; have HB := n0_; clear n0_; (try clear hb); (try clear hb2); (try clear hk); (try clear hi)))
    go_ret
    exact ⟨by first | rfl | (simp [errW_none, errW_some] <;> rfl) | (simp [*, errW_none, errW_some] <;> rfl), by repeat (first | (with_reducible first | exact HB.out | apply below_alloc | apply pw_below_drewN | apply below_drew1) | exact HB.out)⟩
  · rw [if_neg c4] at H
    have c4b0 : decide (400 < (a0.size : Int)) = false := decide_eq_false c4
    have c4b1 : decide (400 < a0.size) = false := decide_eq_false (by omega)
    clear c4
    replace H := Option.bind_eq_some_iff.mp H
    obtain ⟨⟨t142, t143⟩, A60, H⟩ := H
    replace H : ((taquinlaw01_kind.f a1 0 (⟨#[]⟩ : ByteArray) ([] : List Int) ([] : List ByteArray)).bind fun t145 => (if t145 = 0 then ((wire_Reader_Num.f t142 t143).bind fun bt146 => ((wire_Num.f bt146.1).bind fun t149 => (taquinlaw01_WireAgain.j0 k a0 t141 t149 bt146.2.1 bt146.2.2))) else (if t145 = 1 then ((wire_Reader_Int.f t142 t143).bind fun bt150 => ((wire_Int.f bt150.1).bind fun t153 => (taquinlaw01_WireAgain.j0 k a0 t141 t153 bt150.2.1 bt150.2.2))) else (if t145 = 2 then ((wire_Reader_Text.f t142 t143).bind fun bt154 => ((wire_Text.f bt154.1).bind fun t157 => (taquinlaw01_WireAgain.j0 k a0 t141 t157 bt154.2.1 bt154.2.2))) else (if t145 = 3 then ((wire_Reader_Nums.f t142 t143).bind fun bt158 => ((wire_Nums.f bt158.1).bind fun t163 => (taquinlaw01_WireAgain.j0 k a0 t141 t163 bt158.2.1 bt158.2.2))) else ((wire_Reader_Texts.f t142 t143).bind fun bt164 => ((wire_Texts.f bt164.1).bind fun t169 => (taquinlaw01_WireAgain.j0 k a0 t141 t169 bt164.2.1 bt164.2.2)))))))) = some r := H
    have A6 := Aside0.mk A60
    clear A60
    replace H := Option.bind_eq_some_iff.mp H
    obtain ⟨t145, A70, H⟩ := H
    replace H : (if t145 = 0 then ((wire_Reader_Num.f t142 t143).bind fun bt146 => ((wire_Num.f bt146.1).bind fun t149 => (taquinlaw01_WireAgain.j0 k a0 t141 t149 bt146.2.1 bt146.2.2))) else (if t145 = 1 then ((wire_Reader_Int.f t142 t143).bind fun bt150 => ((wire_Int.f bt150.1).bind fun t153 => (taquinlaw01_WireAgain.j0 k a0 t141 t153 bt150.2.1 bt150.2.2))) else (if t145 = 2 then ((wire_Reader_Text.f t142 t143).bind fun bt154 => ((wire_Text.f bt154.1).bind fun t157 => (taquinlaw01_WireAgain.j0 k a0 t141 t157 bt154.2.1 bt154.2.2))) else (if t145 = 3 then ((wire_Reader_Nums.f t142 t143).bind fun bt158 => ((wire_Nums.f bt158.1).bind fun t163 => (taquinlaw01_WireAgain.j0 k a0 t141 t163 bt158.2.1 bt158.2.2))) else ((wire_Reader_Texts.f t142 t143).bind fun bt164 => ((wire_Texts.f bt164.1).bind fun t169 => (taquinlaw01_WireAgain.j0 k a0 t141 t169 bt164.2.1 bt164.2.2))))))) = some r := H
    have A7 := Aside0.mk A70
    clear A70
    have HC8 := Aside0.mk H
    clear H
    go_enter Tryd.func4, Tryd.ntmps4
    go_upto_block 0 with (first | ((with_reducible refine gate_callee (f := 21) rfl ?_); refine goesL_ (some 9) rfl rfl Tryd.func21 (by kernel_rfl) rfl #[] rfl (by (try simp only [List.map_toArray, List.map_cons, List.map_nil]); first | done | rfl | (simp only [List.length_drop, List.length_take]; rfl)) ?_; (with_reducible refine (taquinlaw01_small.calls k  t141 _ A3.out (HT.out.below (by repeat (first | (with_reducible first | exact HB.out | apply below_alloc | apply pw_below_drewN | apply below_drew1) | exact HB.out)))).mono ?_); rintro e w9 ⟨rfl, hb⟩; refine ⟨_, rfl, ?_⟩; have n0_ := Aside0.mk (below_step (by repeat (first | (with_reducible first | exact HB.out | apply below_alloc | apply pw_below_drewN | apply below_drew1) | exact HB.out)) hb); clear HB; have HB := n0_; clear n0_; (try clear hb); (try clear hb2); (try clear hk); (try clear hi)) | ((with_reducible refine gate_callee (f := 33) rfl ?_); refine goesL_ (some 15) rfl rfl Tryd.func33 (by kernel_rfl) rfl #[.string a0] rfl (by (try simp only [List.map_toArray, List.map_cons, List.map_nil]); first | done | rfl | (simp only [List.length_drop, List.length_take]; rfl)) ?_; (with_reducible refine (wire_Open.calls a0 t142 t143 w _ ?side1 A6.out).mono ?_); (case side1 => repeat (first | (with_reducible first | exact HB.out | apply below_alloc | apply pw_below_drewN | apply below_drew1) | exact HB.out)); rintro e w10 ⟨g144, rfl, hi, hb, hb2⟩; refine ⟨_, rfl, ?_⟩; have n0_ := Aside0.mk (hb); have n1_ := Aside0.mk (hi); clear HB; have HB := n0_; have HI144 := n1_; clear n0_ n1_; (try clear hb); (try clear hb2); (try clear hk); (try clear hi)) | ((with_reducible refine gate_callee (f := 34) rfl ?_); refine goesL_ (some 20) rfl rfl Tryd.func34 (by kernel_rfl) rfl #[.agg #[.int .i64 a1, .int .i64 0, .string (⟨#[]⟩ : ByteArray), .slice none 0 0, .slice none 0 0]] rfl (by (try simp only [List.map_toArray, List.map_cons, List.map_nil]); first | done | rfl | (simp only [List.length_drop, List.length_take]; rfl)) ?_; (refine (taquinlaw01_kind.calls a1 0 (⟨#[]⟩ : ByteArray) _ _ ([] : List Int) _ _ ([] : List ByteArray) t145 _ ?side1 ?side2 ?side3 ?side4 A7.out).mono ?_); (case side1 => exact Kd.C_nil _ _); (case side2 => exact Nat.le_refl _); (case side3 => exact Kd.C_nil _ _); (case side4 => exact Nat.le_refl _); rintro e w11 ⟨rfl, hb⟩; refine ⟨_, rfl, ?_⟩; have n0_ := Aside0.mk (IsS189.below (by repeat (first | (with_reducible first | exact HI144.out | apply IsS189.alloc | apply IsS189.drewN | apply IsS189.drew | apply IsS189.set_0 | apply IsS189.set_1) | exact HI144.out)) hb); have n1_ := Aside0.mk (below_step (by repeat (first | (with_reducible first | exact HB.out | apply below_alloc | apply pw_below_drewN | apply below_drew1 | refine below_set ?_ (IsS189.ge HI144.out)) | exact HB.out)) hb); clear HI144; clear HB; have HI144 := n0_; have HB := n1_; clear n0_ n1_; (try clear hb); (try clear hb2); (try clear hk); (try clear hi)))
    (try simp only [Act.put, List.setIfInBounds_toArray, List.set_cons_zero, List.set_cons_succ])
    go_cut [7] (fun v7 wc => ∃ (kq : Nat) (x7_7 : ByteArray) (x145000_7 : ByteArray) (x145001_7 : Bool), v7 = .string x7_7 ∧ Aside0 (taquinlaw01_WireAgain.j0 kq a0 t141 x7_7 x145000_7 x145001_7 = some r) ∧ Aside0 (kq ≤ k) ∧ Aside0 (IsS189 w wc g144 x145000_7 x145001_7) ∧ Aside0 (Below w.heap.size w wc))
    case first =>
      have H := HC8.out
      clear HC8
      by_cases c12 : t145 = 0
      · rw [if_pos c12] at H
        have c12b0 : (t145 == 0) = true := beq_iff_eq.mpr c12
        have c12b1 : (t145 != 0) = false := bne_eq_false_iff_eq.mpr c12
        clear c12
        (first | rw [c12b0] | (simp only [i64_w, i32_w]; rw [c12b0]) | skip)
        replace H := Option.bind_eq_some_iff.mp H
        obtain ⟨⟨t146, t147, t148⟩, A130, H⟩ := H
        replace H : ((wire_Num.f t146).bind fun t149 => (taquinlaw01_WireAgain.j0 k a0 t141 t149 t147 t148)) = some r := H
        have A13 := Aside0.mk A130
        clear A130
        replace H := Option.bind_eq_some_iff.mp H
        obtain ⟨t149, A140, H⟩ := H
        replace H : (taquinlaw01_WireAgain.j0 k a0 t141 t149 t147 t148) = some r := H
        have A14 := Aside0.mk A140
        clear A140
        have H' := Aside0.mk H
        clear H
        go_wp2_with (first | ((with_reducible refine gate_callee (f := 35) rfl ?_); refine goesL_ (some 27) rfl rfl Tryd.func35 (by kernel_rfl) rfl #[.pointer (some ⟨g144, 0, none⟩)] rfl (by (try simp only [List.map_toArray, List.map_cons, List.map_nil]); first | done | rfl | (simp only [List.length_drop, List.length_take]; rfl)) ?_; (with_reducible refine (wire_Reader_Num.calls g144 t142 t143 t146 t147 t148 w _ ?side1 ?side2 A13.out HT.out).mono ?_); (case side1 => repeat (first | (with_reducible first | exact HI144.out | apply IsS189.alloc | apply IsS189.drewN | apply IsS189.drew | apply IsS189.set_0 | apply IsS189.set_1) | exact HI144.out)); (case side2 => repeat (first | (with_reducible first | exact HB.out | apply below_alloc | apply pw_below_drewN | apply below_drew1 | refine below_set ?_ (IsS189.ge HI144.out)) | exact HB.out)); rintro e w15 ⟨rfl, hi, hb, hk⟩; refine ⟨_, rfl, ?_⟩; have n0_ := Aside0.mk (hb); have n1_ := Aside0.mk (hi); clear HB; clear HI144; have HB := n0_; have HI144 := n1_; clear n0_ n1_; (try clear hb); (try clear hb2); (try clear hk); (try clear hi)) | ((with_reducible refine gate_callee (f := 23) rfl ?_); refine goesL_ (some 28) rfl rfl Tryd.func23 (by kernel_rfl) rfl #[.int .i64 t146] rfl (by (try simp only [List.map_toArray, List.map_cons, List.map_nil]); first | done | rfl | (simp only [List.length_drop, List.length_take]; rfl)) ?_; (with_reducible refine (wire_Num.calls t146 t149 _ A14.out (HT.out.below (by repeat (first | (with_reducible first | exact HB.out | apply below_alloc | apply pw_below_drewN | apply below_drew1 | refine below_set ?_ (IsS189.ge HI144.out)) | exact HB.out)))).mono ?_); rintro e w16 ⟨rfl, hb⟩; refine ⟨_, rfl, ?_⟩; have n0_ := Aside0.mk (IsS189.below (by repeat (first | (with_reducible first | exact HI144.out | apply IsS189.alloc | apply IsS189.drewN | apply IsS189.drew | apply IsS189.set_0 | apply IsS189.set_1) | exact HI144.out)) hb); have n1_ := Aside0.mk (below_step (by repeat (first | (with_reducible first | exact HB.out | apply below_alloc | apply pw_below_drewN | apply below_drew1 | refine below_set ?_ (IsS189.ge HI144.out)) | exact HB.out)) hb); clear HI144; clear HB; have HI144 := n0_; have HB := n1_; clear n0_ n1_; (try clear hb); (try clear hb2); (try clear hk); (try clear hi)))
        go_meet
        case rel => exact ⟨_, (t149), (t147), (t148), (by first | rfl | (simp; done) | (simp [*]; done)), H', ⟨by first | omega | exact Nat.le_refl _⟩, ⟨by repeat (first | (with_reducible first | exact HI144.out | apply IsS189.alloc | apply IsS189.drewN | apply IsS189.drew | apply IsS189.set_0 | apply IsS189.set_1) | exact HI144.out)⟩, ⟨by repeat (first | (with_reducible first | exact HB.out | apply below_alloc | apply pw_below_drewN | apply below_drew1 | refine below_set ?_ (IsS189.ge HI144.out)) | exact HB.out)⟩⟩
      · rw [if_neg c12] at H
        have c12b0 : (t145 == 0) = false := beq_eq_false_iff_ne.mpr c12
        have c12b1 : (t145 != 0) = true := bne_iff_ne.mpr c12
        (first | rw [c12b0] | (simp only [i64_w, i32_w]; rw [c12b0]) | skip)
        by_cases c17 : t145 = 1
        · rw [if_pos c17] at H
          have c17b0 : (t145 == 1) = true := beq_iff_eq.mpr c17
          have c17b1 : (t145 != 1) = false := bne_eq_false_iff_eq.mpr c17
          clear c17
          replace H := Option.bind_eq_some_iff.mp H
          obtain ⟨⟨t150, t151, t152⟩, A180, H⟩ := H
          replace H : ((wire_Int.f t150).bind fun t153 => (taquinlaw01_WireAgain.j0 k a0 t141 t153 t151 t152)) = some r := H
          have A18 := Aside0.mk A180
          clear A180
          replace H := Option.bind_eq_some_iff.mp H
          obtain ⟨t153, A190, H⟩ := H
          replace H : (taquinlaw01_WireAgain.j0 k a0 t141 t153 t151 t152) = some r := H
          have A19 := Aside0.mk A190
          clear A190
          have H' := Aside0.mk H
          clear H
          go_wp2_with (first | ((with_reducible refine gate_callee (f := 36) rfl ?_); refine goesL_ (some 32) rfl rfl Tryd.func36 (by kernel_rfl) rfl #[.pointer (some ⟨g144, 0, none⟩)] rfl (by (try simp only [List.map_toArray, List.map_cons, List.map_nil]); first | done | rfl | (simp only [List.length_drop, List.length_take]; rfl)) ?_; (with_reducible refine (wire_Reader_Int.calls g144 t142 t143 t150 t151 t152 w _ ?side1 ?side2 A18.out HT.out).mono ?_); (case side1 => repeat (first | (with_reducible first | exact HI144.out | apply IsS189.alloc | apply IsS189.drewN | apply IsS189.drew | apply IsS189.set_0 | apply IsS189.set_1) | exact HI144.out)); (case side2 => repeat (first | (with_reducible first | exact HB.out | apply below_alloc | apply pw_below_drewN | apply below_drew1 | refine below_set ?_ (IsS189.ge HI144.out)) | exact HB.out)); rintro e w20 ⟨rfl, hi, hb, hk⟩; refine ⟨_, rfl, ?_⟩; have n0_ := Aside0.mk (hb); have n1_ := Aside0.mk (hi); clear HB; clear HI144; have HB := n0_; have HI144 := n1_; clear n0_ n1_; (try clear hb); (try clear hb2); (try clear hk); (try clear hi)) | ((with_reducible refine gate_callee (f := 25) rfl ?_); refine goesL_ (some 33) rfl rfl Tryd.func25 (by kernel_rfl) rfl #[.int .i64 t150] rfl (by (try simp only [List.map_toArray, List.map_cons, List.map_nil]); first | done | rfl | (simp only [List.length_drop, List.length_take]; rfl)) ?_; (with_reducible refine (wire_Int.calls t150 t153 _ A19.out (HT.out.below (by repeat (first | (with_reducible first | exact HB.out | apply below_alloc | apply pw_below_drewN | apply below_drew1 | refine below_set ?_ (IsS189.ge HI144.out)) | exact HB.out)))).mono ?_); rintro e w21 ⟨rfl, hb⟩; refine ⟨_, rfl, ?_⟩; have n0_ := Aside0.mk (IsS189.below (by repeat (first | (with_reducible first | exact HI144.out | apply IsS189.alloc | apply IsS189.drewN | apply IsS189.drew | apply IsS189.set_0 | apply IsS189.set_1) | exact HI144.out)) hb); have n1_ := Aside0.mk (below_step (by repeat (first | (with_reducible first | exact HB.out | apply below_alloc | apply pw_below_drewN | apply below_drew1 | refine below_set ?_ (IsS189.ge HI144.out)) | exact HB.out)) hb); clear HI144; clear HB; have HI144 := n0_; have HB := n1_; clear n0_ n1_; (try clear hb); (try clear hb2); (try clear hk); (try clear hi)))
          go_meet
          case rel => exact ⟨_, (t153), (t151), (t152), (by first | rfl | (simp; done) | (simp [*]; done)), H', ⟨by first | omega | exact Nat.le_refl _⟩, ⟨by repeat (first | (with_reducible first | exact HI144.out | apply IsS189.alloc | apply IsS189.drewN | apply IsS189.drew | apply IsS189.set_0 | apply IsS189.set_1) | exact HI144.out)⟩, ⟨by repeat (first | (with_reducible first | exact HB.out | apply below_alloc | apply pw_below_drewN | apply below_drew1 | refine below_set ?_ (IsS189.ge HI144.out)) | exact HB.out)⟩⟩
        · rw [if_neg c17] at H
          have c17b0 : (t145 == 1) = false := beq_eq_false_iff_ne.mpr c17
          have c17b1 : (t145 != 1) = true := bne_iff_ne.mpr c17
          by_cases c22 : t145 = 2
          · rw [if_pos c22] at H
            have c22b0 : (t145 == 2) = true := beq_iff_eq.mpr c22
            have c22b1 : (t145 != 2) = false := bne_eq_false_iff_eq.mpr c22
            clear c22
            replace H := Option.bind_eq_some_iff.mp H
            obtain ⟨⟨t154, t155, t156⟩, A230, H⟩ := H
            replace H : ((wire_Text.f t154).bind fun t157 => (taquinlaw01_WireAgain.j0 k a0 t141 t157 t155 t156)) = some r := H
            have A23 := Aside0.mk A230
            clear A230
            replace H := Option.bind_eq_some_iff.mp H
            obtain ⟨t157, A240, H⟩ := H
            replace H : (taquinlaw01_WireAgain.j0 k a0 t141 t157 t155 t156) = some r := H
            have A24 := Aside0.mk A240
            clear A240
            have H' := Aside0.mk H
            clear H
            go_wp2_with (first | ((with_reducible refine gate_callee (f := 37) rfl ?_); refine goesL_ (some 37) rfl rfl Tryd.func37 (by kernel_rfl) rfl #[.pointer (some ⟨g144, 0, none⟩)] rfl (by (try simp only [List.map_toArray, List.map_cons, List.map_nil]); first | done | rfl | (simp only [List.length_drop, List.length_take]; rfl)) ?_; (with_reducible refine (wire_Reader_Text.calls g144 t142 t143 t154 t155 t156 w _ ?side1 ?side2 A23.out HT.out).mono ?_); (case side1 => repeat (first | (with_reducible first | exact HI144.out | apply IsS189.alloc | apply IsS189.drewN | apply IsS189.drew | apply IsS189.set_0 | apply IsS189.set_1) | exact HI144.out)); (case side2 => repeat (first | (with_reducible first | exact HB.out | apply below_alloc | apply pw_below_drewN | apply below_drew1 | refine below_set ?_ (IsS189.ge HI144.out)) | exact HB.out)); rintro e w25 ⟨rfl, hi, hb, hk⟩; refine ⟨_, rfl, ?_⟩; have n0_ := Aside0.mk (hb); have n1_ := Aside0.mk (hi); clear HB; clear HI144; have HB := n0_; have HI144 := n1_; clear n0_ n1_; (try clear hb); (try clear hb2); (try clear hk); (try clear hi)) | ((with_reducible refine gate_callee (f := 27) rfl ?_); refine goesL_ (some 38) rfl rfl Tryd.func27 (by kernel_rfl) rfl #[.string t154] rfl (by (try simp only [List.map_toArray, List.map_cons, List.map_nil]); first | done | rfl | (simp only [List.length_drop, List.length_take]; rfl)) ?_; (with_reducible refine (wire_Text.calls t154 t157 _ A24.out (HT.out.below (by repeat (first | (with_reducible first | exact HB.out | apply below_alloc | apply pw_below_drewN | apply below_drew1 | refine below_set ?_ (IsS189.ge HI144.out)) | exact HB.out)))).mono ?_); rintro e w26 ⟨rfl, hb⟩; refine ⟨_, rfl, ?_⟩; have n0_ := Aside0.mk (IsS189.below (by repeat (first | (with_reducible first | exact HI144.out | apply IsS189.alloc | apply IsS189.drewN | apply IsS189.drew | apply IsS189.set_0 | apply IsS189.set_1) | exact HI144.out)) hb); have n1_ := Aside0.mk (below_step (by repeat (first | (with_reducible first | exact HB.out | apply below_alloc | apply pw_below_drewN | apply below_drew1 | refine below_set ?_ (IsS189.ge HI144.out)) | exact HB.out)) hb); clear HI144; clear HB; have HI144 := n0_; have HB := n1_; clear n0_ n1_; (try clear hb); (try clear hb2); (try clear hk); (try clear hi)))
            go_meet
            case rel => exact ⟨_, (t157), (t155), (t156), (by first | rfl | (simp; done) | (simp [*]; done)), H', ⟨by first | omega | exact Nat.le_refl _⟩, ⟨by repeat (first | (with_reducible first | exact HI144.out | apply IsS189.alloc | apply IsS189.drewN | apply IsS189.drew | apply IsS189.set_0 | apply IsS189.set_1) | exact HI144.out)⟩, ⟨by repeat (first | (with_reducible first | exact HB.out | apply below_alloc | apply pw_below_drewN | apply below_drew1 | refine below_set ?_ (IsS189.ge HI144.out)) | exact HB.out)⟩⟩
          · rw [if_neg c22] at H
            have c22b0 : (t145 == 2) = false := beq_eq_false_iff_ne.mpr c22
            have c22b1 : (t145 != 2) = true := bne_iff_ne.mpr c22
            by_cases c27 : t145 = 3
            · rw [if_pos c27] at H
              have c27b0 : (t145 == 3) = true := beq_iff_eq.mpr c27
              have c27b1 : (t145 != 3) = false := bne_eq_false_iff_eq.mpr c27
              clear c27
              replace H := Option.bind_eq_some_iff.mp H
              obtain ⟨⟨t158, t161, t162⟩, A280, H⟩ := H
              replace H : ((wire_Nums.f t158).bind fun t163 => (taquinlaw01_WireAgain.j0 k a0 t141 t163 t161 t162)) = some r := H
              have A28 := Aside0.mk A280
              clear A280
              replace H := Option.bind_eq_some_iff.mp H
              obtain ⟨t163, A290, H⟩ := H
              replace H : (taquinlaw01_WireAgain.j0 k a0 t141 t163 t161 t162) = some r := H
              have A29 := Aside0.mk A290
              clear A290
              have H' := Aside0.mk H
              clear H
              go_wp2_with (first | ((with_reducible refine gate_callee (f := 38) rfl ?_); refine goesL_ (some 42) rfl rfl Tryd.func38 (by kernel_rfl) rfl #[.pointer (some ⟨g144, 0, none⟩)] rfl (by (try simp only [List.map_toArray, List.map_cons, List.map_nil]); first | done | rfl | (simp only [List.length_drop, List.length_take]; rfl)) ?_; (with_reducible refine (wire_Reader_Nums.calls g144 t142 t143 t158 t161 t162 w _ ?side1 ?side2 A28.out HT.out).mono ?_); (case side1 => repeat (first | (with_reducible first | exact HI144.out | apply IsS189.alloc | apply IsS189.drewN | apply IsS189.drew | apply IsS189.set_0 | apply IsS189.set_1) | exact HI144.out)); (case side2 => repeat (first | (with_reducible first | exact HB.out | apply below_alloc | apply pw_below_drewN | apply below_drew1 | refine below_set ?_ (IsS189.ge HI144.out)) | exact HB.out)); rintro e w30 ⟨v159, rfl, ho0, hi, hb, hk⟩; refine ⟨_, rfl, ?_⟩; have n0_ := Aside0.mk (Kd.R_lower ho0 (below_size (by repeat (first | (with_reducible first | exact HB.out | apply below_alloc | apply pw_below_drewN | apply below_drew1 | refine below_set ?_ (IsS189.ge HI144.out)) | exact HB.out)))); have n1_ := Aside0.mk (hb); have n2_ := Aside0.mk (hi); clear HB; clear HI144; have HO160 := n0_; have HB := n1_; have HI144 := n2_; clear n0_ n1_ n2_; (try clear hb); (try clear hb2); (try clear hk); (try clear hi); (try clear ho0); obtain ⟨Ao31, co31, eo31⟩ := Kd.R_slice HO160.out; subst eo31) | ((with_reducible refine gate_callee (f := 29) rfl ?_); refine goesL_ (some 43) rfl rfl Tryd.func29 (by kernel_rfl) rfl #[.slice Ao31 t158.length co31] rfl (by (try simp only [List.map_toArray, List.map_cons, List.map_nil]); first | done | rfl | (simp only [List.length_drop, List.length_take]; rfl)) ?_; (with_reducible refine (wire_Nums.calls _ _ t158 t163 _ ?side1 ?side2 A29.out (HT.out.below (by repeat (first | (with_reducible first | exact HB.out | apply below_alloc | apply pw_below_drewN | apply below_drew1 | refine below_set ?_ (IsS189.ge HI144.out)) | exact HB.out)))).mono ?_); (case side1 => repeat (first | exact (Kd.R_reads' HO160.out).2.2 | (with_reducible refine Kd.C_alloc ?_ _) | (with_reducible refine Kd.C_drewN ?_ _) | (with_reducible refine Kd.C_drew ?_))); (case side2 => exact (Kd.R_reads' HO160.out).2.1); rintro e w32 ⟨rfl, hb⟩; refine ⟨_, rfl, ?_⟩; have n0_ := Aside0.mk (Kd.R_below (by (with_reducible repeat (first | apply Kd.R_alloc | apply Kd.R_drewN | apply Kd.R_drew)); exact HO160.out) hb); have n1_ := Aside0.mk (IsS189.below (by repeat (first | (with_reducible first | exact HI144.out | apply IsS189.alloc | apply IsS189.drewN | apply IsS189.drew | apply IsS189.set_0 | apply IsS189.set_1) | exact HI144.out)) hb); have n2_ := Aside0.mk (below_step (by repeat (first | (with_reducible first | exact HB.out | apply below_alloc | apply pw_below_drewN | apply below_drew1 | refine below_set ?_ (IsS189.ge HI144.out)) | exact HB.out)) hb); clear HO160; clear HI144; clear HB; have HO160 := n0_; have HI144 := n1_; have HB := n2_; clear n0_ n1_ n2_; (try clear hb); (try clear hb2); (try clear hk); (try clear hi)))
              go_meet
              case rel => exact ⟨_, (t163), (t161), (t162), (by first | rfl | (simp; done) | (simp [*]; done)), H', ⟨by first | omega | exact Nat.le_refl _⟩, ⟨by repeat (first | (with_reducible first | exact HI144.out | apply IsS189.alloc | apply IsS189.drewN | apply IsS189.drew | apply IsS189.set_0 | apply IsS189.set_1) | exact HI144.out)⟩, ⟨by repeat (first | (with_reducible first | exact HB.out | apply below_alloc | apply pw_below_drewN | apply below_drew1 | refine below_set ?_ (IsS189.ge HI144.out)) | exact HB.out)⟩⟩
            · rw [if_neg c27] at H
              have c27b0 : (t145 == 3) = false := beq_eq_false_iff_ne.mpr c27
              have c27b1 : (t145 != 3) = true := bne_iff_ne.mpr c27
              replace H := Option.bind_eq_some_iff.mp H
              obtain ⟨⟨t164, t167, t168⟩, A330, H⟩ := H
              replace H : ((wire_Texts.f t164).bind fun t169 => (taquinlaw01_WireAgain.j0 k a0 t141 t169 t167 t168)) = some r := H
              have A33 := Aside0.mk A330
              clear A330
              replace H := Option.bind_eq_some_iff.mp H
              obtain ⟨t169, A340, H⟩ := H
              replace H : (taquinlaw01_WireAgain.j0 k a0 t141 t169 t167 t168) = some r := H
              have A34 := Aside0.mk A340
              clear A340
              have H' := Aside0.mk H
              clear H
              go_wp2_with (first | ((with_reducible refine gate_callee (f := 39) rfl ?_); refine goesL_ (some 22) rfl rfl Tryd.func39 (by kernel_rfl) rfl #[.pointer (some ⟨g144, 0, none⟩)] rfl (by (try simp only [List.map_toArray, List.map_cons, List.map_nil]); first | done | rfl | (simp only [List.length_drop, List.length_take]; rfl)) ?_; (with_reducible refine (wire_Reader_Texts.calls g144 t142 t143 t164 t167 t168 w _ ?side1 ?side2 A33.out HT.out).mono ?_); (case side1 => repeat (first | (with_reducible first | exact HI144.out | apply IsS189.alloc | apply IsS189.drewN | apply IsS189.drew | apply IsS189.set_0 | apply IsS189.set_1) | exact HI144.out)); (case side2 => repeat (first | (with_reducible first | exact HB.out | apply below_alloc | apply pw_below_drewN | apply below_drew1 | refine below_set ?_ (IsS189.ge HI144.out)) | exact HB.out)); rintro e w35 ⟨v165, rfl, ho0, hi, hb, hk⟩; refine ⟨_, rfl, ?_⟩; have n0_ := Aside0.mk (Kd.R_lower ho0 (below_size (by repeat (first | (with_reducible first | exact HB.out | apply below_alloc | apply pw_below_drewN | apply below_drew1 | refine below_set ?_ (IsS189.ge HI144.out)) | exact HB.out)))); have n1_ := Aside0.mk (hb); have n2_ := Aside0.mk (hi); clear HB; clear HI144; have HO166 := n0_; have HB := n1_; have HI144 := n2_; clear n0_ n1_ n2_; (try clear hb); (try clear hb2); (try clear hk); (try clear hi); (try clear ho0); obtain ⟨Ao36, co36, eo36⟩ := Kd.R_slice HO166.out; subst eo36) | ((with_reducible refine gate_callee (f := 31) rfl ?_); refine goesL_ (some 23) rfl rfl Tryd.func31 (by kernel_rfl) rfl #[.slice Ao36 t164.length co36] rfl (by (try simp only [List.map_toArray, List.map_cons, List.map_nil]); first | done | rfl | (simp only [List.length_drop, List.length_take]; rfl)) ?_; (with_reducible refine (wire_Texts.calls _ _ t164 t169 _ ?side1 ?side2 A34.out (HT.out.below (by repeat (first | (with_reducible first | exact HB.out | apply below_alloc | apply pw_below_drewN | apply below_drew1 | refine below_set ?_ (IsS189.ge HI144.out)) | exact HB.out)))).mono ?_); (case side1 => repeat (first | exact (Kd.R_reads' HO166.out).2.2 | (with_reducible refine Kd.C_alloc ?_ _) | (with_reducible refine Kd.C_drewN ?_ _) | (with_reducible refine Kd.C_drew ?_))); (case side2 => exact (Kd.R_reads' HO166.out).2.1); rintro e w37 ⟨rfl, hb⟩; refine ⟨_, rfl, ?_⟩; have n0_ := Aside0.mk (Kd.R_below (by (with_reducible repeat (first | apply Kd.R_alloc | apply Kd.R_drewN | apply Kd.R_drew)); exact HO166.out) hb); have n1_ := Aside0.mk (IsS189.below (by repeat (first | (with_reducible first | exact HI144.out | apply IsS189.alloc | apply IsS189.drewN | apply IsS189.drew | apply IsS189.set_0 | apply IsS189.set_1) | exact HI144.out)) hb); have n2_ := Aside0.mk (below_step (by repeat (first | (with_reducible first | exact HB.out | apply below_alloc | apply pw_below_drewN | apply below_drew1 | refine below_set ?_ (IsS189.ge HI144.out)) | exact HB.out)) hb); clear HO166; clear HI144; clear HB; have HO166 := n0_; have HI144 := n1_; have HB := n2_; clear n0_ n1_ n2_; (try clear hb); (try clear hb2); (try clear hk); (try clear hi)))
              go_meet
              case rel => exact ⟨_, (t169), (t167), (t168), (by first | rfl | (simp; done) | (simp [*]; done)), H', ⟨by first | omega | exact Nat.le_refl _⟩, ⟨by repeat (first | (with_reducible first | exact HI144.out | apply IsS189.alloc | apply IsS189.drewN | apply IsS189.drew | apply IsS189.set_0 | apply IsS189.set_1) | exact HI144.out)⟩, ⟨by repeat (first | (with_reducible first | exact HB.out | apply below_alloc | apply pw_below_drewN | apply below_drew1 | refine below_set ?_ (IsS189.ge HI144.out)) | exact HB.out)⟩⟩
    case rest =>
      clear HC8
      try clear c1
      try clear c2
      try clear p2
      try clear c3
      try clear c4
      try clear c4b0
      try clear c4b1
      try clear c12
      try clear c12b0
      try clear c12b1
      try clear c17
      try clear c17b0
      try clear c17b1
      try clear c21
      try clear c22
      try clear c22b0
      try clear c22b1
      try clear c23
      try clear c25
      try clear c27
      try clear c27b0
      try clear c27b1
      try clear c29
      try clear c31
      try clear c33
      try clear c34
      try clear c35
      try clear c36
      try clear c37
      obtain ⟨kq, x7_7, x145000_7, x145001_7, rfl, HA, HJ7, HI144, HB⟩ := hcut
      cases kq with
      | zero => exact absurd HA.out (by simp [taquinlaw01_WireAgain.j0])
      | succ kj7 =>
        have H := HA.out
        clear HA
        simp only [taquinlaw01_WireAgain.j0] at H
        replace H := Option.bind_eq_some_iff.mp H
        obtain ⟨⟨t170, t171, t172⟩, A380, H⟩ := H
        replace H : (if t170 = 0 then ((wire_Reader_Done.f t171 t172).bind fun bt173 => (if bt173.1 = true then ((wire_Reader_Left.f bt173.2.1 bt173.2.2).bind fun bt176 => (if t141 = true then (if (wrap64 ((a0.size : Int) - bt176.1)) ≥ 0 then (if (wrap64 ((a0.size : Int) - bt176.1)) ≤ (a0.size : Int) then (if 0 ≤ (mx 0 (mn (wrap64 ((a0.size : Int) - bt176.1)) (a0.size : Int))) then (if (mx 0 (mn (wrap64 ((a0.size : Int) - bt176.1)) (a0.size : Int))) ≤ (a0.size : Int) then (some (x7_7.toList == (a0.extract 0 ((mx 0 (mn (wrap64 ((a0.size : Int) - bt176.1)) (a0.size : Int))) : Int).toNat).toList)) else (none)) else (none)) else (none)) else (none)) else (none))) else (some t141))) else ((wire_Reader_Left.f t171 t172).bind fun bt179 => (if t141 = true then (if (wrap64 ((a0.size : Int) - bt179.1)) ≥ 0 then (if (wrap64 ((a0.size : Int) - bt179.1)) ≤ (a0.size : Int) then (if 0 ≤ (mx 0 (mn (wrap64 ((a0.size : Int) - bt179.1)) (a0.size : Int))) then (if (mx 0 (mn (wrap64 ((a0.size : Int) - bt179.1)) (a0.size : Int))) ≤ (a0.size : Int) then (some (x7_7.toList == (a0.extract 0 ((mx 0 (mn (wrap64 ((a0.size : Int) - bt179.1)) (a0.size : Int))) : Int).toNat).toList)) else (none)) else (none)) else (none)) else (none)) else (none)))) = some r := H
        have A38 := Aside0.mk A380
        clear A380
        by_cases c39 : t170 = 0
        · rw [if_pos c39] at H
          have c39b0 : (t170 == 0) = true := beq_iff_eq.mpr c39
          have c39b1 : (t170 != 0) = false := bne_eq_false_iff_eq.mpr c39
          clear c39
          replace H := Option.bind_eq_some_iff.mp H
          obtain ⟨⟨t173, t174, t175⟩, A400, H⟩ := H
          replace H : (if t173 = true then ((wire_Reader_Left.f t174 t175).bind fun bt176 => (if t141 = true then (if (wrap64 ((a0.size : Int) - bt176.1)) ≥ 0 then (if (wrap64 ((a0.size : Int) - bt176.1)) ≤ (a0.size : Int) then (if 0 ≤ (mx 0 (mn (wrap64 ((a0.size : Int) - bt176.1)) (a0.size : Int))) then (if (mx 0 (mn (wrap64 ((a0.size : Int) - bt176.1)) (a0.size : Int))) ≤ (a0.size : Int) then (some (x7_7.toList == (a0.extract 0 ((mx 0 (mn (wrap64 ((a0.size : Int) - bt176.1)) (a0.size : Int))) : Int).toNat).toList)) else (none)) else (none)) else (none)) else (none)) else (none))) else (some t141)) = some r := H
          have A40 := Aside0.mk A400
          clear A400
          by_cases c41 : t173 = true
          · subst c41
            have H1 : ((wire_Reader_Left.f t174 t175).bind fun bt176 => (if t141 = true then (if (wrap64 ((a0.size : Int) - bt176.1)) ≥ 0 then (if (wrap64 ((a0.size : Int) - bt176.1)) ≤ (a0.size : Int) then (if 0 ≤ (mx 0 (mn (wrap64 ((a0.size : Int) - bt176.1)) (a0.size : Int))) then (if (mx 0 (mn (wrap64 ((a0.size : Int) - bt176.1)) (a0.size : Int))) ≤ (a0.size : Int) then (some (x7_7.toList == (a0.extract 0 ((mx 0 (mn (wrap64 ((a0.size : Int) - bt176.1)) (a0.size : Int))) : Int).toNat).toList)) else (none)) else (none)) else (none)) else (none)) else (none))) = some r := by rw [if_pos rfl] at H; exact H
            clear H
            have H := H1
            clear H1
            replace H := Option.bind_eq_some_iff.mp H
            obtain ⟨⟨t176, t177, t178⟩, A420, H⟩ := H
            replace H : (if t141 = true then (if (wrap64 ((a0.size : Int) - t176)) ≥ 0 then (if (wrap64 ((a0.size : Int) - t176)) ≤ (a0.size : Int) then (if 0 ≤ (mx 0 (mn (wrap64 ((a0.size : Int) - t176)) (a0.size : Int))) then (if (mx 0 (mn (wrap64 ((a0.size : Int) - t176)) (a0.size : Int))) ≤ (a0.size : Int) then (some (x7_7.toList == (a0.extract 0 ((mx 0 (mn (wrap64 ((a0.size : Int) - t176)) (a0.size : Int))) : Int).toNat).toList)) else (none)) else (none)) else (none)) else (none)) else (none)) = some r := H
            have A42 := Aside0.mk A420
            clear A420
            by_cases c43 : t141 = true
            · subst c43
              have H1 : (if (wrap64 ((a0.size : Int) - t176)) ≥ 0 then (if (wrap64 ((a0.size : Int) - t176)) ≤ (a0.size : Int) then (if 0 ≤ (mx 0 (mn (wrap64 ((a0.size : Int) - t176)) (a0.size : Int))) then (if (mx 0 (mn (wrap64 ((a0.size : Int) - t176)) (a0.size : Int))) ≤ (a0.size : Int) then (some (x7_7.toList == (a0.extract 0 ((mx 0 (mn (wrap64 ((a0.size : Int) - t176)) (a0.size : Int))) : Int).toNat).toList)) else (none)) else (none)) else (none)) else (none)) = some r := by rw [if_pos rfl] at H; exact H
              clear H
              have H := H1
              clear H1
              by_cases c44 : (wrap64 ((a0.size : Int) - t176)) ≥ 0
              · rw [if_pos c44] at H
                have c44b0 : decide (0 ≤ (wrap64 ((a0.size : Int) - t176))) = true := decide_eq_true c44
                clear c44
                by_cases c45 : (wrap64 ((a0.size : Int) - t176)) ≤ (a0.size : Int)
                · rw [if_pos c45] at H
                  have c45b0 : decide ((wrap64 ((a0.size : Int) - t176)) ≤ (a0.size : Int)) = true := decide_eq_true c45
                  clear c45
                  obtain ⟨ji46, hji46⟩ : ∃ j_ : Int, (mn (wrap64 ((a0.size : Int) - t176)) (a0.size : Int)) = j_ := ⟨_, rfl⟩
                  replace H : (if 0 ≤ (mx 0 (ji46)) then (if (mx 0 (ji46)) ≤ (a0.size : Int) then (some (x7_7.toList == (a0.extract 0 ((mx 0 (ji46)) : Int).toNat).toList)) else (none)) else (none)) = some r := by first | (rw [hji46] at H; exact H) | (simp only [hji46] at H ⊢; exact H)
                  (try rw [hji46] at A38)
                  (try rw [hji46] at A40)
                  (try rw [hji46] at A42)
                  have hji46_ : (if (a0.size : Int) < (wrap64 ((a0.size : Int) - t176)) then (a0.size : Int) else (wrap64 ((a0.size : Int) - t176))) = ji46 := hji46
                  obtain ⟨ji47, hji47⟩ : ∃ j_ : Int, (mx 0 (ji46)) = j_ := ⟨_, rfl⟩
                  replace H : (if 0 ≤ (ji47) then (if (ji47) ≤ (a0.size : Int) then (some (x7_7.toList == (a0.extract 0 ((ji47) : Int).toNat).toList)) else (none)) else (none)) = some r := by first | (rw [hji47] at H; exact H) | (simp only [hji47] at H ⊢; exact H)
                  (try rw [hji47] at A38)
                  (try rw [hji47] at A40)
                  (try rw [hji47] at A42)
                  have hji47_ : (if 0 < (ji46) then (ji46) else 0) = ji47 := hji47
                  by_cases c48 : 0 ≤ (ji47)
                  · rw [if_pos c48] at H
                    have c48b0 := eq_true c48
                    have c48b1 : decide (0 ≤ (ji47)) = true := decide_eq_true c48
                    clear c48
                    by_cases c49 : (ji47) ≤ (a0.size : Int)
                    · rw [if_pos c49] at H
                      have c49b0 := eq_true c49
                      have c49b1 : decide ((ji47) ≤ (a0.size : Int)) = true := decide_eq_true c49
                      clear c49
                      obtain rfl := Option.some.inj H
                      go_wp2_with (first | ((with_reducible refine gate_callee (f := 40) rfl ?_); refine goesL_ (some 45) rfl rfl Tryd.func40 (by kernel_rfl) rfl #[.pointer (some ⟨g144, 0, none⟩)] rfl (by (try simp only [List.map_toArray, List.map_cons, List.map_nil]); first | done | rfl | (simp only [List.length_drop, List.length_take]; rfl)) ?_; (with_reducible refine (wire_Reader_Left.calls g144 x145000_7 x145001_7 t170 t171 t172 w _ ?side1 ?side2 A38.out).mono ?_); (case side1 => repeat (first | (with_reducible first | exact HI144.out | apply IsS189.alloc | apply IsS189.drewN | apply IsS189.drew | apply IsS189.set_0 | apply IsS189.set_1) | exact HI144.out)); (case side2 => repeat (first | (with_reducible first | exact HB.out | apply below_alloc | apply pw_below_drewN | apply below_drew1 | refine below_set ?_ (IsS189.ge HI144.out)) | exact HB.out)); rintro e w50 ⟨rfl, hi, hb, hk⟩; refine ⟨_, rfl, ?_⟩; have n0_ := Aside0.mk (hb); have n1_ := Aside0.mk (hi); clear HB; clear HI144; have HB := n0_; have HI144 := n1_; clear n0_ n1_; (try clear hb); (try clear hb2); (try clear hk); (try clear hi)) | (go_at_call 41; (with_reducible refine (wire_Reader_Done.calls g144 t171 t172 true t174 t175 w _ ?side1 ?side2 A40.out).mono ?_); (case side1 => repeat (first | (with_reducible first | exact HI144.out | apply IsS189.alloc | apply IsS189.drewN | apply IsS189.drew | apply IsS189.set_0 | apply IsS189.set_1) | exact HI144.out)); (case side2 => repeat (first | (with_reducible first | exact HB.out | apply below_alloc | apply pw_below_drewN | apply below_drew1 | refine below_set ?_ (IsS189.ge HI144.out)) | exact HB.out)); rintro e w51 ⟨rfl, hi, hb, hk⟩; have n0_ := Aside0.mk (hb); have n1_ := Aside0.mk (hi); clear HB; clear HI144; have HB := n0_; have HI144 := n1_; clear n0_ n1_; (try clear hb); (try clear hb2); (try clear hk); (try clear hi)) | ((with_reducible refine gate_callee (f := 40) rfl ?_); refine goesL_ (some 56) rfl rfl Tryd.func40 (by kernel_rfl) rfl #[.pointer (some ⟨g144, 0, none⟩)] rfl (by (try simp only [List.map_toArray, List.map_cons, List.map_nil]); first | done | rfl | (simp only [List.length_drop, List.length_take]; rfl)) ?_; (with_reducible refine (wire_Reader_Left.calls g144 t174 t175 t176 t177 t178 w _ ?side1 ?side2 A42.out).mono ?_); (case side1 => repeat (first | (with_reducible first | exact HI144.out | apply IsS189.alloc | apply IsS189.drewN | apply IsS189.drew | apply IsS189.set_0 | apply IsS189.set_1) | exact HI144.out)); (case side2 => repeat (first | (with_reducible first | exact HB.out | apply below_alloc | apply pw_below_drewN | apply below_drew1 | refine below_set ?_ (IsS189.ge HI144.out)) | exact HB.out)); rintro e w52 ⟨rfl, hi, hb, hk⟩; refine ⟨_, rfl, ?_⟩; have n0_ := Aside0.mk (hb); have n1_ := Aside0.mk (hi); clear HB; clear HI144; have HB := n0_; have HI144 := n1_; clear n0_ n1_; (try clear hb); (try clear hb2); (try clear hk); (try clear hi)))
                      go_ret
                      exact ⟨by first | rfl | (simp [errW_none, errW_some] <;> rfl) | (simp only [← hji46, ← hji47]; first | rfl | (simp [errW_none, errW_some] <;> rfl)) | (simp [*, errW_none, errW_some] <;> rfl), by repeat (first | (with_reducible first | exact HB.out | apply below_alloc | apply pw_below_drewN | apply below_drew1 | refine below_set ?_ (IsS189.ge HI144.out)) | exact HB.out)⟩
                    · rw [if_neg c49] at H
                      exact absurd H (by simp)
                  · rw [if_neg c48] at H
                    exact absurd H (by simp)
                · rw [if_neg c45] at H
                  exact absurd H (by simp)
              · rw [if_neg c44] at H
                exact absurd H (by simp)
            · replace c43 := Bool.eq_false_iff.mpr c43
              subst c43
              have H1 : (none) = some r := by rw [if_neg (show ¬ (false = true) by decide)] at H; exact H
              clear H
              have H := H1
              clear H1
              exact absurd H (by simp)
          · replace c41 := Bool.eq_false_iff.mpr c41
            subst c41
            have H1 : (some t141) = some r := by rw [if_neg (show ¬ (false = true) by decide)] at H; exact H
            clear H
            have H := H1
            clear H1
            obtain rfl := Option.some.inj H
            go_wp2_with (first | ((with_reducible refine gate_callee (f := 40) rfl ?_); refine goesL_ (some 45) rfl rfl Tryd.func40 (by kernel_rfl) rfl #[.pointer (some ⟨g144, 0, none⟩)] rfl (by (try simp only [List.map_toArray, List.map_cons, List.map_nil]); first | done | rfl | (simp only [List.length_drop, List.length_take]; rfl)) ?_; (with_reducible refine (wire_Reader_Left.calls g144 x145000_7 x145001_7 t170 t171 t172 w _ ?side1 ?side2 A38.out).mono ?_); (case side1 => repeat (first | (with_reducible first | exact HI144.out | apply IsS189.alloc | apply IsS189.drewN | apply IsS189.drew | apply IsS189.set_0 | apply IsS189.set_1) | exact HI144.out)); (case side2 => repeat (first | (with_reducible first | exact HB.out | apply below_alloc | apply pw_below_drewN | apply below_drew1 | refine below_set ?_ (IsS189.ge HI144.out)) | exact HB.out)); rintro e w53 ⟨rfl, hi, hb, hk⟩; refine ⟨_, rfl, ?_⟩; have n0_ := Aside0.mk (hb); have n1_ := Aside0.mk (hi); clear HB; clear HI144; have HB := n0_; have HI144 := n1_; clear n0_ n1_; (try clear hb); (try clear hb2); (try clear hk); (try clear hi)) | (go_at_call 41; (with_reducible refine (wire_Reader_Done.calls g144 t171 t172 false t174 t175 w _ ?side1 ?side2 A40.out).mono ?_); (case side1 => repeat (first | (with_reducible first | exact HI144.out | apply IsS189.alloc | apply IsS189.drewN | apply IsS189.drew | apply IsS189.set_0 | apply IsS189.set_1) | exact HI144.out)); (case side2 => repeat (first | (with_reducible first | exact HB.out | apply below_alloc | apply pw_below_drewN | apply below_drew1 | refine below_set ?_ (IsS189.ge HI144.out)) | exact HB.out)); rintro e w54 ⟨rfl, hi, hb, hk⟩; have n0_ := Aside0.mk (hb); have n1_ := Aside0.mk (hi); clear HB; clear HI144; have HB := n0_; have HI144 := n1_; clear n0_ n1_; (try clear hb); (try clear hb2); (try clear hk); (try clear hi)))
            go_ret
            exact ⟨by first | rfl | (simp [errW_none, errW_some] <;> rfl) | (simp [*, errW_none, errW_some] <;> rfl), by repeat (first | (with_reducible first | exact HB.out | apply below_alloc | apply pw_below_drewN | apply below_drew1 | refine below_set ?_ (IsS189.ge HI144.out)) | exact HB.out)⟩
        · rw [if_neg c39] at H
          have c39b0 : (t170 == 0) = false := beq_eq_false_iff_ne.mpr c39
          have c39b1 : (t170 != 0) = true := bne_iff_ne.mpr c39
          replace H := Option.bind_eq_some_iff.mp H
          obtain ⟨⟨t179, t180, t181⟩, A550, H⟩ := H
          replace H : (if t141 = true then (if (wrap64 ((a0.size : Int) - t179)) ≥ 0 then (if (wrap64 ((a0.size : Int) - t179)) ≤ (a0.size : Int) then (if 0 ≤ (mx 0 (mn (wrap64 ((a0.size : Int) - t179)) (a0.size : Int))) then (if (mx 0 (mn (wrap64 ((a0.size : Int) - t179)) (a0.size : Int))) ≤ (a0.size : Int) then (some (x7_7.toList == (a0.extract 0 ((mx 0 (mn (wrap64 ((a0.size : Int) - t179)) (a0.size : Int))) : Int).toNat).toList)) else (none)) else (none)) else (none)) else (none)) else (none)) = some r := H
          have A55 := Aside0.mk A550
          clear A550
          by_cases c56 : t141 = true
          · subst c56
            have H1 : (if (wrap64 ((a0.size : Int) - t179)) ≥ 0 then (if (wrap64 ((a0.size : Int) - t179)) ≤ (a0.size : Int) then (if 0 ≤ (mx 0 (mn (wrap64 ((a0.size : Int) - t179)) (a0.size : Int))) then (if (mx 0 (mn (wrap64 ((a0.size : Int) - t179)) (a0.size : Int))) ≤ (a0.size : Int) then (some (x7_7.toList == (a0.extract 0 ((mx 0 (mn (wrap64 ((a0.size : Int) - t179)) (a0.size : Int))) : Int).toNat).toList)) else (none)) else (none)) else (none)) else (none)) = some r := by rw [if_pos rfl] at H; exact H
            clear H
            have H := H1
            clear H1
            by_cases c57 : (wrap64 ((a0.size : Int) - t179)) ≥ 0
            · rw [if_pos c57] at H
              have c57b0 : decide (0 ≤ (wrap64 ((a0.size : Int) - t179))) = true := decide_eq_true c57
              clear c57
              by_cases c58 : (wrap64 ((a0.size : Int) - t179)) ≤ (a0.size : Int)
              · rw [if_pos c58] at H
                have c58b0 : decide ((wrap64 ((a0.size : Int) - t179)) ≤ (a0.size : Int)) = true := decide_eq_true c58
                clear c58
                obtain ⟨ji59, hji59⟩ : ∃ j_ : Int, (mn (wrap64 ((a0.size : Int) - t179)) (a0.size : Int)) = j_ := ⟨_, rfl⟩
                replace H : (if 0 ≤ (mx 0 (ji59)) then (if (mx 0 (ji59)) ≤ (a0.size : Int) then (some (x7_7.toList == (a0.extract 0 ((mx 0 (ji59)) : Int).toNat).toList)) else (none)) else (none)) = some r := by first | (rw [hji59] at H; exact H) | (simp only [hji59] at H ⊢; exact H)
                (try rw [hji59] at A38)
                (try rw [hji59] at A55)
                have hji59_ : (if (a0.size : Int) < (wrap64 ((a0.size : Int) - t179)) then (a0.size : Int) else (wrap64 ((a0.size : Int) - t179))) = ji59 := hji59
                obtain ⟨ji60, hji60⟩ : ∃ j_ : Int, (mx 0 (ji59)) = j_ := ⟨_, rfl⟩
                replace H : (if 0 ≤ (ji60) then (if (ji60) ≤ (a0.size : Int) then (some (x7_7.toList == (a0.extract 0 ((ji60) : Int).toNat).toList)) else (none)) else (none)) = some r := by first | (rw [hji60] at H; exact H) | (simp only [hji60] at H ⊢; exact H)
                (try rw [hji60] at A38)
                (try rw [hji60] at A55)
                have hji60_ : (if 0 < (ji59) then (ji59) else 0) = ji60 := hji60
                by_cases c61 : 0 ≤ (ji60)
                · rw [if_pos c61] at H
                  have c61b0 := eq_true c61
                  have c61b1 : decide (0 ≤ (ji60)) = true := decide_eq_true c61
                  clear c61
                  by_cases c62 : (ji60) ≤ (a0.size : Int)
                  · rw [if_pos c62] at H
                    have c62b0 := eq_true c62
                    have c62b1 : decide ((ji60) ≤ (a0.size : Int)) = true := decide_eq_true c62
                    clear c62
                    obtain rfl := Option.some.inj H
                    go_wp2_with (first | ((with_reducible refine gate_callee (f := 40) rfl ?_); refine goesL_ (some 45) rfl rfl Tryd.func40 (by kernel_rfl) rfl #[.pointer (some ⟨g144, 0, none⟩)] rfl (by (try simp only [List.map_toArray, List.map_cons, List.map_nil]); first | done | rfl | (simp only [List.length_drop, List.length_take]; rfl)) ?_; (with_reducible refine (wire_Reader_Left.calls g144 x145000_7 x145001_7 t170 t171 t172 w _ ?side1 ?side2 A38.out).mono ?_); (case side1 => repeat (first | (with_reducible first | exact HI144.out | apply IsS189.alloc | apply IsS189.drewN | apply IsS189.drew | apply IsS189.set_0 | apply IsS189.set_1) | exact HI144.out)); (case side2 => repeat (first | (with_reducible first | exact HB.out | apply below_alloc | apply pw_below_drewN | apply below_drew1 | refine below_set ?_ (IsS189.ge HI144.out)) | exact HB.out)); rintro e w63 ⟨rfl, hi, hb, hk⟩; refine ⟨_, rfl, ?_⟩; have n0_ := Aside0.mk (hb); have n1_ := Aside0.mk (hi); clear HB; clear HI144; have HB := n0_; have HI144 := n1_; clear n0_ n1_; (try clear hb); (try clear hb2); (try clear hk); (try clear hi)) | ((with_reducible refine gate_callee (f := 40) rfl ?_); refine goesL_ (some 56) rfl rfl Tryd.func40 (by kernel_rfl) rfl #[.pointer (some ⟨g144, 0, none⟩)] rfl (by (try simp only [List.map_toArray, List.map_cons, List.map_nil]); first | done | rfl | (simp only [List.length_drop, List.length_take]; rfl)) ?_; (with_reducible refine (wire_Reader_Left.calls g144 t171 t172 t179 t180 t181 w _ ?side1 ?side2 A55.out).mono ?_); (case side1 => repeat (first | (with_reducible first | exact HI144.out | apply IsS189.alloc | apply IsS189.drewN | apply IsS189.drew | apply IsS189.set_0 | apply IsS189.set_1) | exact HI144.out)); (case side2 => repeat (first | (with_reducible first | exact HB.out | apply below_alloc | apply pw_below_drewN | apply below_drew1 | refine below_set ?_ (IsS189.ge HI144.out)) | exact HB.out)); rintro e w64 ⟨rfl, hi, hb, hk⟩; refine ⟨_, rfl, ?_⟩; have n0_ := Aside0.mk (hb); have n1_ := Aside0.mk (hi); clear HB; clear HI144; have HB := n0_; have HI144 := n1_; clear n0_ n1_; (try clear hb); (try clear hb2); (try clear hk); (try clear hi)))
                    go_ret
                    exact ⟨by first | rfl | (simp [errW_none, errW_some] <;> rfl) | (simp only [← hji59, ← hji60]; first | rfl | (simp [errW_none, errW_some] <;> rfl)) | (simp [*, errW_none, errW_some] <;> rfl), by repeat (first | (with_reducible first | exact HB.out | apply below_alloc | apply pw_below_drewN | apply below_drew1 | refine below_set ?_ (IsS189.ge HI144.out)) | exact HB.out)⟩
                  · rw [if_neg c62] at H
                    exact absurd H (by simp)
                · rw [if_neg c61] at H
                  exact absurd H (by simp)
              · rw [if_neg c58] at H
                exact absurd H (by simp)
            · rw [if_neg c57] at H
              exact absurd H (by simp)
          · replace c56 := Bool.eq_false_iff.mpr c56
            subst c56
            have H1 : (none) = some r := by rw [if_neg (show ¬ (false = true) by decide)] at H; exact H
            clear H
            have H := H1
            clear H1
            exact absurd H (by simp)

end Go.Proofs.YtigdjhnpngjhjaaDoor.PWr
