-- written by a program of this claim's own (wip/tools/pp.py), after the kit's printer
import Derived.Test.YtigdjhnpngjhjaaDoorPWtx0
import Derived.Test.YtigdjhnpngjhjaaDoorPWtx1
import Derived.Test.YtigdjhnpngjhjaaDoorPWtx2
namespace Go.Proofs.YtigdjhnpngjhjaaDoor.PWt
open Go.RowKit Go.Proofs.YtigdjhnpngjhjaaDoorW.PrintWords Go.Proofs.YtigdjhnpngjhjaaDoorW.PrintLast Go.Proofs.YtigdjhnpngjhjaaDoorW.PrintMore
attribute [local go_sem] max2_int min2_int max_two min_two max_three min_three max_four min_four   -- for this text's walks alone
set_option linter.unusedVariables false
set_option linter.unusedSimpArgs false

/-! ### wire_Reader_Texts: function 39 -/
theorem wire_Reader_Texts.ba_extract (l : List UInt8) (i j : Nat) : (⟨l.toArray⟩ : ByteArray).extract i j = ⟨((l.drop i).take (j - i)).toArray⟩ := by
  apply ByteArray.ext
  rw [ByteArray.data_extract]
  simp [List.extract_eq_take_drop]
theorem wire_Reader_Texts.text_eq (l : List UInt8) (b : Bool) : wire_Reader_Text.f ⟨l.toArray⟩ b = some (⟨(WireMath.rText (l, b)).1.toArray⟩, ⟨(WireMath.rText (l, b)).2.1.toArray⟩, (WireMath.rText (l, b)).2.2) := by
  unfold wire_Reader_Text.f WireMath.rText
  rw [show (58 : Int) = ((58 : UInt8).toNat : Int) from rfl, wire_Reader_Nums.number_eq 58 (by decide)]
  simp only [Option.bind_some, wire_Reader_Nums.ba_size]
  have h0 : 0 ≤ (WireMath.number 58 0 (l, b)).1 := WireMath.number_nonneg _ _
  generalize hp : WireMath.number 58 0 (l, b) = p at h0
  obtain ⟨n, u, d⟩ := p
  simp only at h0 ⊢
  by_cases hn : n > (u.length : Int)
  · rw [if_pos hn, if_pos (by omega)]
    rfl
  · rw [if_neg hn, if_pos h0, if_pos (by omega)]
    rw [wire_Reader_Texts.ba_extract, wire_Reader_Texts.ba_extract, wire_Reader_Nums.close_eq]
    simp only [Option.bind_some]
    have h1 : ((u.drop n.toNat).take (u.length - n.toNat)) = u.drop n.toNat := List.take_of_length_le (by simp)
    rw [h1]
    simp only [List.drop_zero, Nat.sub_zero]
    split
    · rename_i h; rw [h]
      first | done | rfl
    · rename_i h
      simp only [Bool.not_eq_true] at h
      simp only [h, Bool.false_eq_true, if_false]
def wire_Reader_Texts.B (x : List UInt8) : ByteArray := ⟨x.toArray⟩
def wire_Reader_Texts.f (s0_0 : ByteArray) (s0_1 : Bool) : Option (List ByteArray × ByteArray × Bool) :=
  if s0_0.size ≤ 8796093022200 then some ((WireMath.rTexts (wire_Reader_number.rd s0_0 s0_1)).1.map wire_Reader_Texts.B, ⟨(WireMath.rTexts (wire_Reader_number.rd s0_0 s0_1)).2.1.toArray⟩, (WireMath.rTexts (wire_Reader_number.rd s0_0 s0_1)).2.2) else none
set_option maxHeartbeats 4000000 in
set_option maxRecDepth 100000 in
theorem wire_Reader_Texts.items (g : Nat) (l : List UInt8) (b : Bool) (w0 w : World) (hI : IsS189 w0 w g ⟨l.toArray⟩ b) (hB : Below w0.heap.size w0 w) (hT : Tabs w0) (hs : l.length ≤ 8796093022200) :
    Calls Tryd.prog 149 #[.pointer (some ⟨g, 0, none⟩), .func (.func 37) #[.pointer (some ⟨g, 0, none⟩)] #[]] w fun e w' => ∃ v0_ : Value, e = .returned v0_ ∧ Kd.R Kd.string 9 w' w.heap.size (fun _ => True) v0_ ((WireMath.rTexts (l, b)).1.map wire_Reader_Texts.B) ∧ IsS189 w0 w' g ⟨(WireMath.rTexts (l, b)).2.1.toArray⟩ (WireMath.rTexts (l, b)).2.2 ∧ Below w0.heap.size w0 w' ∧ KeepBut w w' g none := by
  obtain ⟨i0, hi0, hz0, hz1, hz2⟩ := info_parts info9
  have hgw := IsS189.lt hI
  have hww := hB.size
  have HI := Aside0.mk hI
  have HT := Aside0.mk hT
  have HB := Aside0.mk hB
  have HS := Aside0.mk hs
  have hle := (WireMath.number_le 91 (by decide) 0 (l, b))
  have hnn := WireMath.number_nonneg 91 (l, b)
  have hnx := WireMath.number_max 91 0 (l, b)
  have hnq := wire_Reader_Nums.number_eq 91 (by decide) 0 l b
  have hR : WireMath.rTexts (l, b) = (if (WireMath.close 93 (WireMath.rMany WireMath.rText (WireMath.number 91 0 (l, b)).1.toNat (WireMath.number 91 0 (l, b)).2).2).2 then [] else (WireMath.rMany WireMath.rText (WireMath.number 91 0 (l, b)).1.toNat (WireMath.number 91 0 (l, b)).2).1, WireMath.close 93 (WireMath.rMany WireMath.rText (WireMath.number 91 0 (l, b)).1.toNat (WireMath.number 91 0 (l, b)).2).2) := rfl
  generalize hp : WireMath.number 91 0 (l, b) = p at hle hnn hnx hnq hR
  obtain ⟨n, u, d⟩ := p
  simp only at hle hnn hnx hnq hR
  obtain ⟨m, rfl⟩ : ∃ m : Nat, n = m := ⟨n.toNat, by omega⟩
  rw [Int.toNat_natCast] at hR
  have HN := Aside0.mk hnq
  have HR := Aside0.mk hR
  have HL := Aside0.mk hle
  have HX := Aside0.mk (show m ≤ 9223372036854775807 by omega)
  clear hI hB hT hs hp hle hnn hnx hnq hR
  go_enter Tryd.func149, Tryd.ntmps149
  go_wp2_with fail
  refine (wire_Reader_number.calls g _ _ _ _ _ _ _ w0 _ HI.out HB.out HN.out HT.out).mono ?_
  rintro e w1 ⟨rfl, hi1, hb1, hk1⟩
  have HS1 : Aside0 (wire_Reader_number.St w0 w g ⟨u.toArray⟩ d w1) := ⟨⟨hi1, hb1, hk1⟩⟩
  clear hi1 hb1 hk1 HN
  go_wp2
  go_loopw [5, 6] (fun v5 v6 wr => ∃ (m' : Nat) (acc : List (List UInt8)) (u' : List UInt8) (d' : Bool), v6 = .int .i64 m' ∧ Aside0 (m' ≤ 9223372036854775807) ∧ Aside0 (wr.ownsRow w.heap.size 9 1 v5 acc.length ((acc.map wire_Reader_Texts.B).map Value.string)) ∧ Aside0 (wire_Reader_number.St w0 w g ⟨u'.toArray⟩ d' wr) ∧ Aside0 ((acc ++ (WireMath.rMany WireMath.rText m' (u', d')).1, (WireMath.rMany WireMath.rText m' (u', d')).2) = WireMath.rMany WireMath.rText m (u, d)) ∧ Aside0 (2 * acc.length ≤ l.length + 2 ∧ (d' = false → 2 * acc.length + u'.length ≤ l.length))) (fun _ v6 _ => (intOf v6).toNat)
  case atStart => exact ⟨m, [], u, d, rfl, HX, ⟨own_nil _ _ _ _⟩, HS1, ⟨by simp⟩, ⟨by simp, fun _ => by have := HL.out.1; simp; omega⟩⟩
  case round =>
    obtain ⟨m', acc, u', d', rfl, hmx, ho, hst, hq, hbd⟩ := hrel
    obtain ⟨hbk, _⟩ := hst.out.1
    have hc1 := cellS189_1 hbk
    have hc0 := cellS189_0 hbk
    clear hbk
    rcases (show m' = 0 ∨ (0 < m' ∧ d' = true) ∨ (0 < m' ∧ d' = false) by cases d' <;> simp <;> omega) with hm | ⟨hm, hd⟩ | ⟨hm, hd⟩
    · have HE := Aside0.mk (WireMath.rMany_end WireMath.rText m' (u', d') (.inl hm))
      have hm1 : ¬ (0 : Int) < (m' : Int) := by omega
      have hm2 : decide ((0 : Int) < (m' : Int)) = false := decide_eq_false hm1
      clear hm
      go_wp2_with fail
      obtain ⟨zu, zd, hz⟩ : ∃ zu zd, WireMath.close 93 (u', d') = (zu, zd) := ⟨_, _, rfl⟩
      have hcl := wire_Reader_Nums.close_eq u' d' 93
      rw [hz] at hcl
      have HC := Aside0.mk hcl
      have HF : Aside0 (WireMath.rTexts (l, b) = (if zd then [] else acc, (zu, zd))) := ⟨by rw [HR.out, ← hq.out, HE.out]; simp [hz]⟩
      clear hz hcl
      refine (wire_Reader_close.calls g _ _ _ _ _ w0 _ hst.out.1 hst.out.2.1 HC.out).mono ?_
      rintro e w2 ⟨rfl, hi2, hb2, hk2⟩
      have HO2 := Aside0.mk (wire_Reader_Nums.own_to hk2 ho.out hgw)
      have HS2 : Aside0 (wire_Reader_number.St w0 w g ⟨zu.toArray⟩ zd w2) := ⟨⟨hi2, hb2, hst.out.2.2.trans hk2 (.inl rfl)⟩⟩
      obtain ⟨hbk2, _⟩ := hi2
      have hc2 := cellS189_1 hbk2
      clear hbk2 hb2 hk2 ho hst hq hbd hc0 hc1
      cases zd with
      | true =>
        go_wp2
        go_ret
        refine ⟨_, rfl, ?_, ?_, HS2.out.2.1, HS2.out.2.2⟩
        · rw [HF.out]; exact Kd.R_nil _ _ _ _ _
        · rw [HF.out]; exact HS2.out.1
      | false =>
        go_wp2
        go_ret
        refine ⟨_, rfl, ?_, ?_, HS2.out.2.1, HS2.out.2.2⟩
        · rw [HF.out]; simp only [Bool.false_eq_true, if_false]; exact Kd.R_of_own (xs := acc.map wire_Reader_Texts.B) (by rw [List.length_map]; exact HO2.out) (fun _ _ => trivial)
        · rw [HF.out]; exact HS2.out.1
    · subst hd
      have HE := Aside0.mk (WireMath.rMany_end WireMath.rText m' (u', true) (.inr rfl))
      have hm1 : (0 : Int) < (m' : Int) := by omega
      have hm2 : decide ((0 : Int) < (m' : Int)) = true := decide_eq_true hm1
      go_wp2_with fail
      obtain ⟨zu, zd, hz⟩ : ∃ zu zd, WireMath.close 93 (u', true) = (zu, zd) := ⟨_, _, rfl⟩
      have hcl := wire_Reader_Nums.close_eq u' true 93
      rw [hz] at hcl
      have HC := Aside0.mk hcl
      have HF : Aside0 (WireMath.rTexts (l, b) = (if zd then [] else acc, (zu, zd))) := ⟨by rw [HR.out, ← hq.out, HE.out]; simp [hz]⟩
      clear hz hcl
      refine (wire_Reader_close.calls g _ _ _ _ _ w0 _ hst.out.1 hst.out.2.1 HC.out).mono ?_
      rintro e w2 ⟨rfl, hi2, hb2, hk2⟩
      have HO2 := Aside0.mk (wire_Reader_Nums.own_to hk2 ho.out hgw)
      have HS2 : Aside0 (wire_Reader_number.St w0 w g ⟨zu.toArray⟩ zd w2) := ⟨⟨hi2, hb2, hst.out.2.2.trans hk2 (.inl rfl)⟩⟩
      obtain ⟨hbk2, _⟩ := hi2
      have hc2 := cellS189_1 hbk2
      clear hbk2 hb2 hk2 ho hst hq hbd hc0 hc1
      cases zd with
      | true =>
        go_wp2
        go_ret
        refine ⟨_, rfl, ?_, ?_, HS2.out.2.1, HS2.out.2.2⟩
        · rw [HF.out]; exact Kd.R_nil _ _ _ _ _
        · rw [HF.out]; exact HS2.out.1
      | false =>
        go_wp2
        go_ret
        refine ⟨_, rfl, ?_, ?_, HS2.out.2.1, HS2.out.2.2⟩
        · rw [HF.out]; simp only [Bool.false_eq_true, if_false]; exact Kd.R_of_own (xs := acc.map wire_Reader_Texts.B) (by rw [List.length_map]; exact HO2.out) (fun _ _ => trivial)
        · rw [HF.out]; exact HS2.out.1
    · subst hd
      obtain ⟨m'', rfl⟩ : ∃ k, m' = k + 1 := ⟨m' - 1, by omega⟩
      have hm1 : (0 : Int) < ((m'' + 1 : Nat) : Int) := by omega
      have hm2 : decide ((0 : Int) < ((m'' + 1 : Nat) : Int)) = true := decide_eq_true hm1
      have hm3 : (m'' : Int) ≤ 9223372036854775806 := by have := hmx.out; omega
      have hm4 : (0 : Int) ≤ (m'' : Int) := Int.natCast_nonneg _
      have hlr := WireMath.rText_le (u', false)
      have hir := wire_Reader_Texts.text_eq u' false
      obtain ⟨x, u2, d2, hx⟩ : ∃ x u2 d2, WireMath.rText (u', false) = (x, (u2, d2)) := ⟨_, _, _, rfl⟩
      have hms := WireMath.rMany_succ WireMath.rText m'' u' hx
      rw [hx] at hir
      rw [hx] at hlr
      simp only at hir hlr
      have HIr := Aside0.mk hir
      have HQ : Aside0 (((acc ++ [x]) ++ (WireMath.rMany WireMath.rText m'' (u2, d2)).1, (WireMath.rMany WireMath.rText m'' (u2, d2)).2) = WireMath.rMany WireMath.rText m (u, d)) := ⟨by rw [← hq.out, hms]; simp⟩
      have HBD : Aside0 (2 * (acc ++ [x]).length ≤ l.length + 2 ∧ (d2 = false → 2 * (acc ++ [x]).length + u2.length ≤ l.length)) := ⟨by
        have h1 := hbd.out.2 rfl
        refine ⟨by simp; omega, fun h => ?_⟩
        have := (hlr.2 h).2
        simp; omega⟩
      have HSl := Aside0.mk (show acc.length + 1 ≤ 8796093022200 by have := hbd.out.2 rfl; have := HS.out; omega)
      clear hir hlr hx hms hq hbd
      go_wp2_with fail
      refine (wire_Reader_Text.calls g _ _ _ _ _ w0 _ hst.out.1 hst.out.2.1 HIr.out HT.out).mono ?_
      rintro e w2 ⟨rfl, hi2, hb2, hk2⟩
      have HO2 := Aside0.mk (wire_Reader_Nums.own_to hk2 ho.out hgw)
      have HS2 : Aside0 (wire_Reader_number.St w0 w g ⟨u2.toArray⟩ d2 w2) := ⟨⟨hi2, hb2, hst.out.2.2.trans hk2 (.inl rfl)⟩⟩
      clear hi2 hb2 hk2 ho hst HIr
      go_wp2_with (at_builtin; refine wpList_append_own _ rfl _ _ 23 rfl w.heap.size 9 i0 (.string ⟨#[]⟩) 1 16 Tryd.underlying23 hi0 hz0 hz1 hz2 rfl (by decide) _ _ _ rfl (HO2.out.alloc _) ⟨w2.heap.size, 0, none⟩ 1 1 [.string ⟨x.toArray⟩] rfl rfl ?c1 ?c2 ?c3 ?c4 ?c5 ?_)
      case c1 =>
        intro j u hj
        match j, hj with
        | 0, hj => simp at hj; subst hj; simp [Addr.add]
      case c2 => intro u hu; simp at hu; subst hu; rfl
      case c3 => have := HSl.out; unfold maxLen; omega
      case c4 => have := HSl.out; omega
      case c5 => have := HS2.out.2.2.1; simp; omega
      intro v' w3 hown' hgrow _
      have HO3 := Aside0.mk hown'
      have HS3 := Aside0.mk (wire_Reader_Nums.grow (HS2.out.on (below_alloc (Below.refl _ _) _)) hgrow (fun k hk => own_base HO2.out k hk) hww hgw)
      clear hown' hgrow
      go_wp2
      go_roundw
      case rel => exact ⟨m'', acc ++ [x], u2, d2, by go_num, ⟨by omega⟩, ⟨by simpa [wire_Reader_Texts.B] using HO3.out⟩, HS3, HQ, HBD⟩
      case measure => simp [intOf]
set_option maxHeartbeats 1000000 in
set_option maxRecDepth 100000 in
theorem wire_Reader_Texts.calls (g : Nat) (s0_0 : ByteArray) (s0_1 : Bool) (r1 : List ByteArray) (r2 : ByteArray) (r3 : Bool) (w0 w : World) (hI : IsS189 w0 w g s0_0 s0_1) (hB : Below w0.heap.size w0 w) (h : wire_Reader_Texts.f s0_0 s0_1 = some (r1, r2, r3)) (hT : Tabs w0) :
    Calls Tryd.prog 39 #[.pointer (some ⟨g, 0, none⟩)] w fun e w' => ∃ v0_ : Value, e = .returned (v0_) ∧ Kd.R Kd.string 9 w' w.heap.size (fun _ => True) v0_ r1 ∧ IsS189 w0 w' g r2 r3 ∧ Below w0.heap.size w0 w' ∧ KeepBut w w' g none := by
  unfold wire_Reader_Texts.f at h
  split at h
  · rename_i hs
    simp only [Option.some.injEq, Prod.mk.injEq] at h
    obtain ⟨rfl, rfl, rfl⟩ := h
    have H := Aside0.mk (wire_Reader_Texts.items g s0_0.data.toList s0_1 w0 w (by rw [wire_Reader_Nums.ba_eta]; exact hI) hB hT (by rw [Array.length_toList]; exact hs))
    clear hI hB hT hs
    go_enter Tryd.func39, Tryd.ntmps39
    go_wp2_with (go_at_call 149; refine H.out.mono ?_; rintro e w1 ⟨v0, rfl, hq⟩; have HQ := Aside0.mk hq; clear hq)
    go_ret
    exact ⟨_, rfl, HQ.out⟩
  · cases h

/-- A state of type 195 at block g of W; what its slices lead to came in by w0. -/
def IsS195 (w0 W : World) (g : Nat) (f0 : ByteArray) (f1 : Bool) : Prop := W.heap[g]? = some (.cells #[.string f0, .bool f1] 195 (0, 0)) ∧ w0.heap.size ≤ g
theorem IsS195.grown {w0 W : World} {g : Nat} {f0 : ByteArray} {f1 : Bool} {W1 : World} {row : Option Nat} (h : IsS195 w0 W g f0 f1) (hw : W.grownBy W1 row) (hne : some g ≠ row) : IsS195 w0 W1 g f0 f1 := by
  obtain ⟨hb, hg⟩ := h
  exact ⟨blk_grown hb hw hne, hg⟩
theorem IsS195.own_neN {w0 W : World} {g : Nat} {f0 : ByteArray} {f1 : Bool} {α : Type} {d : Kd α} {e : Nat} {base : Nat} {ok : Nat → Prop} {v : Value} {xs : List α} (h : IsS195 w0 W g f0 f1) (ho : Kd.N d e W base ok v xs) (ht : e ≠ 195) : some g ≠ v.ownBlock := by
  obtain ⟨hb, hg⟩ := h
  exact Kd.N_ne ho hb ht
theorem IsS195.fresh {w0 W : World} {g : Nat} {f0 : ByteArray} {f1 : Bool} (h : IsS195 w0 W g f0 f1) : ∀ k, W.heap.size ≤ k → k ≠ g := by
  obtain ⟨hb, hg⟩ := h
  exact Kd.freshB hb
theorem IsS195.kept {w0 W : World} {g : Nat} {f0 : ByteArray} {f1 : Bool} {W1 : World} {S : Nat → Prop} (h : IsS195 w0 W g f0 f1) (hk : Kept W W1 S) (hne : ¬ S g) : IsS195 w0 W1 g f0 f1 := by
  obtain ⟨hb, hg⟩ := h
  exact ⟨blk_kept hb hk hne, hg⟩
theorem IsS195.below {w0 W : World} {g : Nat} {f0 : ByteArray} {f1 : Bool} {W1 : World} (h : IsS195 w0 W g f0 f1) (hw : Below W.heap.size W W1) : IsS195 w0 W1 g f0 f1 := h.grown (grown_of_below hw none) (by simp)
theorem IsS195.alloc {w0 W : World} {g : Nat} {f0 : ByteArray} {f1 : Bool} (h : IsS195 w0 W g f0 f1) (o : Obj) : IsS195 w0 (W.alloc o) g f0 f1 := h.below (below_alloc (Below.refl _ _) o)
theorem IsS195.drewN {w0 W : World} {g : Nat} {f0 : ByteArray} {f1 : Bool} (h : IsS195 w0 W g f0 f1) (m : Nat) : IsS195 w0 (W.drewN m) g f0 f1 := h
theorem IsS195.drew {w0 W : World} {g : Nat} {f0 : ByteArray} {f1 : Bool} (h : IsS195 w0 W g f0 f1) : IsS195 w0 W.drew g f0 f1 := h
theorem IsS195.at_ {w0 W : World} {g : Nat} {f0 : ByteArray} {f1 : Bool} {w' : World} {m : Nat} (hq : W.drewN m = w') (h : IsS195 w0 W g f0 f1) : IsS195 w0 w' g f0 f1 := by subst hq; exact IsS195.drewN h m
theorem IsS195.apart {w0 W : World} {g : Nat} {f0 : ByteArray} {f1 : Bool} {α : Type} {d : Kd α} {e : Nat} {base : Nat} {ok : Nat → Prop} {v : Value} {xs : List α} (h : IsS195 w0 W g f0 f1) (ho : d.R e W base ok v xs) (ht : ∀ q, q ∈ e :: d.E → q ≠ 195) : d.R e W base (fun k => ok k ∧ k ≠ g) v xs := by
  obtain ⟨hb, hg⟩ := h
  exact Kd.R_types ho hb ht
theorem IsS195.own_ne {w0 W : World} {g : Nat} {f0 : ByteArray} {f1 : Bool} {α : Type} {d : Kd α} {e : Nat} {base : Nat} {ok : Nat → Prop} {v : Value} {xs : List α} (h : IsS195 w0 W g f0 f1) (ho : d.R e W base ok v xs) (ht : e ≠ 195) : some g ≠ v.ownBlock := by
  obtain ⟨hb, hg⟩ := h
  exact Kd.R_ne ho hb ht
theorem IsS195.apartQ {w0 W : World} {g : Nat} {f0 : ByteArray} {f1 : Bool} {α : Type} {d : Kd α} {e : Nat} {base : Nat} {ok : Nat → Prop} {v : Value} {xs : List α} (h : IsS195 w0 W g f0 f1) (ho : d.Q e W base ok v xs) (ht : ∀ q, q ∈ e :: d.E → q ≠ 195) : d.Q e W base (fun k => ok k ∧ k ≠ g) v xs := by
  obtain ⟨hb, hg⟩ := h
  exact Kd.Q_types ho hb ht
theorem IsS195.own_neQ {w0 W : World} {g : Nat} {f0 : ByteArray} {f1 : Bool} {α : Type} {d : Kd α} {e : Nat} {base : Nat} {ok : Nat → Prop} {v : Value} {xs : List α} (h : IsS195 w0 W g f0 f1) (ho : d.Q e W base ok v xs) (ht : e ≠ 195) : some g ≠ v.ownBlock := by
  obtain ⟨hb, hg⟩ := h
  exact Kd.Q_ne ho hb ht
theorem IsS195.apartS {w0 W : World} {g : Nat} {f0 : ByteArray} {f1 : Bool} {α : Type} {d : Kd α} {e : Nat} {base : Nat} {ok : Nat → Prop} {v : Value} {xs : List α} (h : IsS195 w0 W g f0 f1) (ho : d.S e W base ok v xs) (ht : ∀ q, q ∈ e :: d.E → q ≠ 195) : d.S e W base (fun k => ok k ∧ k ≠ g) v xs := by
  obtain ⟨hb, hg⟩ := h
  exact Kd.S_types ho hb ht
theorem IsS195.own_neS {w0 W : World} {g : Nat} {f0 : ByteArray} {f1 : Bool} {α : Type} {d : Kd α} {e : Nat} {base : Nat} {ok : Nat → Prop} {v : Value} {xs : List α} (h : IsS195 w0 W g f0 f1) (ho : d.S e W base ok v xs) (ht : e ≠ 195) : some g ≠ v.ownBlock := by
  obtain ⟨hb, hg⟩ := h
  exact Kd.S_ne ho hb ht
theorem IsS195.lt {w0 W : World} {g : Nat} {f0 : ByteArray} {f1 : Bool} (h : IsS195 w0 W g f0 f1) : g < W.heap.size := by
  obtain ⟨hb, hg⟩ := h
  exact blk_lt hb
theorem IsS195.ge {w0 W : World} {g : Nat} {f0 : ByteArray} {f1 : Bool} (h : IsS195 w0 W g f0 f1) : w0.heap.size ≤ g := by
  obtain ⟨hb, hg⟩ := h
  exact hg
theorem IsS195.ne_blk {w0 W : World} {g : Nat} {f0 : ByteArray} {f1 : Bool} {a : Nat} {cs : Array Value} {t : TypeId} {fr : Nat × Nat} (h : IsS195 w0 W g f0 f1) (hb2 : W.heap[a]? = some (.cells cs t fr)) (ht : t ≠ 195) : g ≠ a := by
  obtain ⟨hb, hg⟩ := h
  rintro rfl
  rw [hb] at hb2
  injection hb2 with hb2
  injection hb2 with _ ht2
  exact ht ht2.symm
theorem IsS195.far {w0 W : World} {g : Nat} {f0 : ByteArray} {f1 : Bool} {p : Addr} (h : IsS195 w0 W g f0 f1) (hne : g ≠ p.block) (u : Value) : IsS195 w0 (W.setCell p u) g f0 f1 := by
  obtain ⟨hb, hg⟩ := h
  exact ⟨blk_far hb hne u, hg⟩
theorem cellS195_0 {W : World} {g : Nat} {f0 : ByteArray} {f1 : Bool} (h : W.heap[g]? = some (.cells #[.string f0, .bool f1] 195 (0, 0))) : W.cell? ⟨g, 0, none⟩ = some (.string f0) := (blk_cell h 0).trans rfl
theorem IsS195.set_0 {w0 W : World} {g : Nat} {f0 : ByteArray} {f1 : Bool} (h : IsS195 w0 W g f0 f1) (x : ByteArray) : IsS195 w0 (W.setCell ⟨g, 0, none⟩ (.string x)) g x f1 := by
  obtain ⟨hb, hg⟩ := h
  exact ⟨by simpa using blk_set hb 0 (.string x), hg⟩
theorem cellS195_1 {W : World} {g : Nat} {f0 : ByteArray} {f1 : Bool} (h : W.heap[g]? = some (.cells #[.string f0, .bool f1] 195 (0, 0))) : W.cell? ⟨g, 1, none⟩ = some (.bool f1) := (blk_cell h 1).trans rfl
theorem IsS195.set_1 {w0 W : World} {g : Nat} {f0 : ByteArray} {f1 : Bool} (h : IsS195 w0 W g f0 f1) (x : Bool) : IsS195 w0 (W.setCell ⟨g, 1, none⟩ (.bool x)) g f0 x := by
  obtain ⟨hb, hg⟩ := h
  exact ⟨by simpa using blk_set hb 1 (.bool x), hg⟩
theorem IsS195.new (w0 W : World) (f0 : ByteArray) (f1 : Bool) (hB : Below w0.heap.size w0 W) : IsS195 w0 (W.alloc (.cells #[.string f0, .bool f1] 195)) W.heap.size f0 f1 := ⟨by simpa using heap_alloc_new W _, hB.size⟩

/-! ### taquinref01_Open: function 44 -/
def taquinref01_Open.f (a0 : ByteArray) : Option (ByteArray × Bool) := some (a0, false)
set_option maxHeartbeats 8000000 in
set_option maxRecDepth 100000 in
theorem taquinref01_Open.calls (a0 : ByteArray) (r1 : ByteArray) (r2 : Bool) (w0 w : World) (hB : Below w0.heap.size w0 w) (h : taquinref01_Open.f a0 = some (r1, r2)) :
    Calls Tryd.prog 44 #[.string a0] w fun e w' => ∃ g_ : Nat, e = .returned (.pointer (some ⟨g_, 0, none⟩)) ∧ IsS195 w0 w' g_ r1 r2 ∧ Below w0.heap.size w0 w' ∧ Below w.heap.size w w' := by
  have hu195 := Tryd.underlying195
  have HBW := Aside0.mk (Below.refl w.heap.size w)
  have HW0 := Aside0.mk hB.size
  have HB := Aside0.mk hB
  clear hB
  have H : (some (a0, false)) = some (r1, r2) := h
  clear h
  simp only [Option.some.injEq, Prod.mk.injEq] at H
  obtain ⟨rfl, rfl⟩ := H
  go_enter Tryd.func44, Tryd.ntmps44
  go_wp2_with (first | ((with_reducible refine gate_dst (N := 5) rfl ?_); refine box_event ?hg (N := 5) ?hd (cs := #[.string a0, .bool false]) (t := 195) ?hr ?_; (case hd => rfl); (case hg => rfl); (case hr => first | (go_simp; done) | (go_simp; rfl)); intro gb141 hg w2 hbox hb; have n0_ := Aside0.mk (below_step HBW.out hb); have n1_ := Aside0.mk (below_step (by repeat (first | (with_reducible first | exact HB.out | apply below_alloc | apply pw_below_drewN | apply below_drew1) | exact HB.out)) hb); have n2_ := Aside0.mk (hbox); have n3_ := Aside0.mk ((by rw [hg]; exact (below_size (by repeat (first | (with_reducible first | exact HBW.out | apply below_alloc | apply pw_below_drewN | apply below_drew1) | exact HBW.out))) : w.heap.size ≤ gb141)); have n4_ := Aside0.mk ((Nat.le_trans HW0.out (by rw [hg]; exact (below_size (by repeat (first | (with_reducible first | exact HBW.out | apply below_alloc | apply pw_below_drewN | apply below_drew1) | exact HBW.out))) : w.heap.size ≤ gb141) : w0.heap.size ≤ gb141)); clear HBW; clear HB; have HBW := n0_; have HB := n1_; have BK141 := n2_; have GW141 := n3_; have GE141 := n4_; clear n0_ n1_ n2_ n3_ n4_; clear hb hbox hg))
  go_ret
  exact ⟨_, rfl, (show IsS195 w0 _ gb141 a0 false from ⟨by (with_reducible repeat (first | refine blk_drewN ?_ _ | refine blk_drew ?_ | refine blk_alloc ?_ _)); exact BK141.out, GE141.out⟩), by repeat (first | (with_reducible first | exact HB.out | apply below_alloc | apply pw_below_drewN | apply below_drew1 | refine below_set ?_ GE141.out) | exact HB.out), by repeat (first | (with_reducible first | exact HBW.out | apply below_alloc | apply pw_below_drewN | apply below_drew1 | refine below_set ?_ GW141.out) | exact HBW.out)⟩

/-! ### taquinref01_Reader_fail: function 153 -/
def taquinref01_Reader_fail.f (s0_0 : ByteArray) (s0_1 : Bool) : Option (Int × ByteArray × Bool) := some (0, (⟨#[]⟩ : ByteArray), true)
set_option maxHeartbeats 8000000 in
set_option maxRecDepth 100000 in
theorem taquinref01_Reader_fail.calls (g : Nat) (s0_0 : ByteArray) (s0_1 : Bool) (r1 : Int) (r2 : ByteArray) (r3 : Bool) (w0 w : World) (hI : IsS195 w0 w g s0_0 s0_1) (hB : Below w0.heap.size w0 w) (h : taquinref01_Reader_fail.f s0_0 s0_1 = some (r1, r2, r3)) :
    Calls Tryd.prog 153 #[.pointer (some ⟨g, 0, none⟩)] w fun e w' => e = .returned (.int .i64 r1) ∧ IsS195 w0 w' g r2 r3 ∧ Below w0.heap.size w0 w' ∧ KeepBut w w' g none := by
  have HI0 := Aside0.mk hI
  have HK := Aside0.mk (KeepBut.refl w g none)
  have HL := Aside0.mk hB.size
  clear hI
  have HW0 := Aside0.mk hB.size
  have HB := Aside0.mk hB
  clear hB
  have H : (some (0, (⟨#[]⟩ : ByteArray), true)) = some (r1, r2, r3) := h
  clear h
  simp only [Option.some.injEq, Prod.mk.injEq] at H
  obtain ⟨rfl, rfl, rfl⟩ := H
  obtain ⟨HGz2, hgz2⟩ := HI0.out
  have hcz2_0 := cellS195_0 HGz2
  have hcz2_1 := cellS195_1 HGz2
  have hfz2_0 := blk_frozen HGz2 0
  have hfz2_1 := blk_frozen HGz2 1
  clear HGz2 hgz2
  go_enter Tryd.func153, Tryd.ntmps153
  go_wp2
  go_ret
  exact ⟨by first | rfl | (simp [errW_none, errW_some] <;> rfl) | (simp [*, errW_none, errW_some] <;> rfl), by repeat (first | (with_reducible first | exact HI0.out | apply IsS195.alloc | apply IsS195.drewN | apply IsS195.drew | apply IsS195.set_0 | apply IsS195.set_1) | exact HI0.out), by repeat (first | (with_reducible first | exact HB.out | apply below_alloc | apply pw_below_drewN | apply below_drew1 | refine below_set ?_ (IsS195.ge HI0.out)) | exact HB.out), by repeat (first | (with_reducible first | exact HK.out | apply KeepBut.set_ | apply keep_drewN | apply keep_drew | apply keep_alloc) | exact HK.out)⟩

/-! ### taquinref01_digits: function 142 -/
def taquinref01_digits.f : Nat → Int → Option (ByteArray)
  | 0, _ => none
  | k + 1, a0 => (some (([(wrap64 (48 - (Int.tmod a0 10))) % 256] : List Int) : List Int)).bind fun y142 => (if a0 > (-10) then (some (strOfNums y142)) else ((taquinref01_digits.f k (wrap64 (Int.tdiv a0 10))).bind fun t145 => (if t145.size + (strOfNums y142).size ≤ 9223372036854775807 then (some (t145 ++ (strOfNums y142))) else (none))))
theorem taquinref01_digits.mono_l : ∀ k, (∀ y0, LeO (taquinref01_digits.f k y0) (taquinref01_digits.f (k + 1) y0))
  | 0 => fun _ r h => by simp [taquinref01_digits.f] at h
  | k + 1 => by
    have ih0 := taquinref01_digits.mono_l k
    · intro y0
      unfold taquinref01_digits.f
      repeat' first
      | (with_reducible exact ih0 _)
      | (with_reducible exact LeO.refl _)
      | (with_reducible exact LeO.none _)
      | (with_reducible refine LeO.ite ?_ ?_)
      | (with_reducible refine LeO.bind ?_ (fun _ => ?_))
      | exact ih0 _
      | exact LeO.none _
      | refine LeO.ite ?_ ?_
      | refine LeO.bind ?_ (fun _ => ?_)
theorem taquinref01_digits.mono : ∀ a0 k, LeO (taquinref01_digits.f k a0) (taquinref01_digits.f (k + 1) a0) := by
  intro a0 k
  have ih0 := taquinref01_digits.mono_l k
  exact ih0 a0
set_option maxHeartbeats 8000000 in
set_option maxRecDepth 100000 in
theorem taquinref01_digits.calls (k : Nat) : ∀ (a0 : Int) (r : ByteArray) (w : World) (h : taquinref01_digits.f k a0 = some r),
    Calls Tryd.prog 142 #[.int .i64 a0] w fun e w' => e = .returned (.string r) ∧ Below w.heap.size w w' := by
  induction k using Nat.strongRecOn with
  | _ k ih =>
  intro a0 r w h
  cases k with
  | zero => exact absurd h (by simp [taquinref01_digits.f])
  | succ k =>
  simp only [taquinref01_digits.f] at h
  have HB := Aside0.mk (Below.refl w.heap.size w)
  have H : ((some (([(wrap64 (48 - (Int.tmod a0 10))) % 256] : List Int) : List Int)).bind fun y142 => (if a0 > (-10) then (some (strOfNums y142)) else ((taquinref01_digits.f k (wrap64 (Int.tdiv a0 10))).bind fun t145 => (if t145.size + (strOfNums y142).size ≤ 9223372036854775807 then (some (t145 ++ (strOfNums y142))) else (none))))) = some r := h
  clear h
  obtain ⟨y142, hy142⟩ : ∃ y_ : List Int, y_ = (([(wrap64 (48 - (Int.tmod a0 10))) % 256] : List Int)) := ⟨_, rfl⟩
  replace H : (if a0 > (-10) then (some (strOfNums y142)) else ((taquinref01_digits.f k (wrap64 (Int.tdiv a0 10))).bind fun t145 => (if t145.size + (strOfNums y142).size ≤ 9223372036854775807 then (some (t145 ++ (strOfNums y142))) else (none)))) = some r := by first | (rw [hy142]; with_reducible exact H) | (have H2_ := (Option.bind_some _ _).symm.trans H; rw [hy142]; with_reducible exact H2_) | (have H2_ := (Option.bind_some _ _).symm.trans H; with_reducible exact H2_) | with_reducible exact H | (rw [hy142]; exact H) | exact H
  have Ny142 := Aside0.mk hy142
  clear hy142
  by_cases c2 : a0 > (-10)
  · rw [if_pos c2] at H
    have c2b0 : decide ((-10) < a0) = true := decide_eq_true c2
    clear c2
    obtain rfl := Option.some.inj H
    go_enter Tryd.func142, Tryd.ntmps142
    go_wp2_with (first | ((with_reducible refine gate_dst (N := 8) rfl ?_); refine Kd.R_lit (Kd.int .u8) _ 5 ?hg (N := 8) ?hd (xs := ([(wrap64 (48 - (Int.tmod a0 10))) % 256] : List Int)) (inner := [.int .u8 ((wrap64 (48 - (Int.tmod a0 10))) % 256)]) (ok := fun _ => True) (okp := fun _ => True) ?hr ?hp (fun _ hk => hk) trivial (Below.refl _ _) (Nat.le_refl _) (by simp) ?_; (case hd => rfl); (case hg => rfl); (case hr => first | (go_simp; done) | (go_simp; rfl)); (case hp => exact (Reps.one (show Kd.M (Kd.int .u8) _ _ _ ((wrap64 (48 - (Int.tmod a0 10))) % 256) [.int .u8 ((wrap64 (48 - (Int.tmod a0 10))) % 256)] from rfl) (Reps.none _ _))); intro v143 w3 ho4 hb hg_ hnew_; clear hg_ hnew_; (first | rw [← Ny142.out] at ho4 | (simp only [Int.reduceToNat] at ho4; rw [← Ny142.out] at ho4)); have n0_ := Aside0.mk (Kd.R_lower ho4 (below_size (by repeat (first | (with_reducible first | exact HB.out | apply below_alloc | apply pw_below_drewN | apply below_drew1) | exact HB.out)))); have n1_ := Aside0.mk (below_step (by repeat (first | (with_reducible first | exact HB.out | apply below_alloc | apply pw_below_drewN | apply below_drew1) | exact HB.out)) hb); clear HB; have HO144 := n0_; have HB := n1_; clear n0_ n1_; clear hb ho4; have hcv5 := own_string (P := Tryd.prog) Tryd.underlying204 Tryd.underlying5 Tryd.underlying9 (Kd.own_of_R HO144.out)))
    go_ret
    exact ⟨by first | rfl | (simp [errW_none, errW_some] <;> rfl) | (simp [*, errW_none, errW_some] <;> rfl), by repeat (first | (with_reducible first | exact HB.out | apply below_alloc | apply pw_below_drewN | apply below_drew1) | exact HB.out)⟩
  · rw [if_neg c2] at H
    have c2b0 : decide ((-10) < a0) = false := decide_eq_false c2
    clear c2
    replace H := Option.bind_eq_some_iff.mp H
    obtain ⟨t145, A60, H⟩ := H
    replace H : (if t145.size + (strOfNums y142).size ≤ 9223372036854775807 then (some (t145 ++ (strOfNums y142))) else (none)) = some r := H
    have A6 := Aside0.mk A60
    clear A60
    by_cases c7 : t145.size + (strOfNums y142).size ≤ 9223372036854775807
    · rw [if_pos c7] at H
      have c7b0 := eq_true c7
      have c7b1 : decide (t145.size + (strOfNums y142).size ≤ 9223372036854775807) = true := decide_eq_true c7
      try have c7b2 : (9223372036854775807 < t145.size + (strOfNums y142).size) = False := eq_false (Nat.not_lt.2 c7)
      obtain rfl := Option.some.inj H
      go_enter Tryd.func142, Tryd.ntmps142
      go_wp2_with (first | ((with_reducible refine gate_dst (N := 8) rfl ?_); refine Kd.R_lit (Kd.int .u8) _ 5 ?hg (N := 8) ?hd (xs := ([(wrap64 (48 - (Int.tmod a0 10))) % 256] : List Int)) (inner := [.int .u8 ((wrap64 (48 - (Int.tmod a0 10))) % 256)]) (ok := fun _ => True) (okp := fun _ => True) ?hr ?hp (fun _ hk => hk) trivial (Below.refl _ _) (Nat.le_refl _) (by simp) ?_; (case hd => rfl); (case hg => rfl); (case hr => first | (go_simp; done) | (go_simp; rfl)); (case hp => exact (Reps.one (show Kd.M (Kd.int .u8) _ _ _ ((wrap64 (48 - (Int.tmod a0 10))) % 256) [.int .u8 ((wrap64 (48 - (Int.tmod a0 10))) % 256)] from rfl) (Reps.none _ _))); intro v143 w8 ho9 hb hg_ hnew_; clear hg_ hnew_; (first | rw [← Ny142.out] at ho9 | (simp only [Int.reduceToNat] at ho9; rw [← Ny142.out] at ho9)); have n0_ := Aside0.mk (Kd.R_lower ho9 (below_size (by repeat (first | (with_reducible first | exact HB.out | apply below_alloc | apply pw_below_drewN | apply below_drew1) | exact HB.out)))); have n1_ := Aside0.mk (below_step (by repeat (first | (with_reducible first | exact HB.out | apply below_alloc | apply pw_below_drewN | apply below_drew1) | exact HB.out)) hb); clear HB; have HO144 := n0_; have HB := n1_; clear n0_ n1_; clear hb ho9; have hcv10 := own_string (P := Tryd.prog) Tryd.underlying204 Tryd.underlying5 Tryd.underlying9 (Kd.own_of_R HO144.out)) | ((with_reducible refine gate_callee (f := 142) rfl ?_); refine goesL_ (some 15) rfl rfl Tryd.func142 (by kernel_rfl) rfl #[.int .i64 (wrap64 (Int.tdiv a0 10))] rfl (by (try simp only [List.map_toArray, List.map_cons, List.map_nil]); first | done | rfl | (simp only [List.length_drop, List.length_take]; rfl)) ?_; (with_reducible refine (ih k (by omega) (wrap64 (Int.tdiv a0 10)) t145 _ A6.out).mono ?_); rintro e w11 ⟨rfl, hb⟩; refine ⟨_, rfl, ?_⟩; have n0_ := Aside0.mk (Kd.R_below (by (with_reducible repeat (first | apply Kd.R_alloc | apply Kd.R_drewN | apply Kd.R_drew)); exact HO144.out) hb); have n1_ := Aside0.mk (below_step (by repeat (first | (with_reducible first | exact HB.out | apply below_alloc | apply pw_below_drewN | apply below_drew1) | exact HB.out)) hb); clear HO144; clear HB; have HO144 := n0_; have HB := n1_; clear n0_ n1_; (try clear hb); (try clear hb2); (try clear hk); (try clear hi)))
      go_ret
      exact ⟨by first | rfl | (simp [errW_none, errW_some] <;> rfl) | (simp [*, errW_none, errW_some] <;> rfl), by repeat (first | (with_reducible first | exact HB.out | apply below_alloc | apply pw_below_drewN | apply below_drew1) | exact HB.out)⟩
    · rw [if_neg c7] at H
      exact absurd H (by simp)

/-! ### taquinref01_Int: function 26 -/
def taquinref01_Int.f (k : Nat) (a0 : Int) : Option (ByteArray) := if a0 < 0 then ((taquinref01_digits.f k a0).bind fun t146 => (if 1 + t146.size ≤ 9223372036854775807 then (if 1 + t146.size + 1 ≤ 9223372036854775807 then (some (((⟨#[45]⟩ : ByteArray) ++ t146) ++ (⟨#[59]⟩ : ByteArray))) else (none)) else (none))) else ((taquinref01_digits.f k (wrap64 (-a0))).bind fun t147 => (if t147.size + 1 ≤ 9223372036854775807 then (some (t147 ++ (⟨#[59]⟩ : ByteArray))) else (none)))
theorem taquinref01_Int.mono : ∀ a0 k, LeO (taquinref01_Int.f k a0) (taquinref01_Int.f (k + 1) a0) := by
  intro a0 k
  unfold taquinref01_Int.f
  repeat' first
      | (with_reducible exact taquinref01_digits.mono _ _)
      | (with_reducible exact LeO.refl _)
      | (with_reducible exact LeO.none _)
      | (with_reducible refine LeO.ite ?_ ?_)
      | (with_reducible refine LeO.bind ?_ (fun _ => ?_))
      | exact taquinref01_digits.mono _ _
      | exact LeO.none _
      | refine LeO.ite ?_ ?_
      | refine LeO.bind ?_ (fun _ => ?_)
set_option maxHeartbeats 8000000 in
set_option maxRecDepth 100000 in
theorem taquinref01_Int.calls (k : Nat) (a0 : Int) (r : ByteArray) (w : World) (h : taquinref01_Int.f k a0 = some r) :
    Calls Tryd.prog 26 #[.int .i64 a0] w fun e w' => e = .returned (.string r) ∧ Below w.heap.size w w' := by
  have HB := Aside0.mk (Below.refl w.heap.size w)
  have H : (if a0 < 0 then ((taquinref01_digits.f k a0).bind fun t146 => (if 1 + t146.size ≤ 9223372036854775807 then (if 1 + t146.size + 1 ≤ 9223372036854775807 then (some (((⟨#[45]⟩ : ByteArray) ++ t146) ++ (⟨#[59]⟩ : ByteArray))) else (none)) else (none))) else ((taquinref01_digits.f k (wrap64 (-a0))).bind fun t147 => (if t147.size + 1 ≤ 9223372036854775807 then (some (t147 ++ (⟨#[59]⟩ : ByteArray))) else (none)))) = some r := h
  clear h
  by_cases c2 : a0 < 0
  · rw [if_pos c2] at H
    have c2b0 : decide (a0 < 0) = true := decide_eq_true c2
    clear c2
    replace H := Option.bind_eq_some_iff.mp H
    obtain ⟨t146, A30, H⟩ := H
    replace H : (if 1 + t146.size ≤ 9223372036854775807 then (if 1 + t146.size + 1 ≤ 9223372036854775807 then (some (((⟨#[45]⟩ : ByteArray) ++ t146) ++ (⟨#[59]⟩ : ByteArray))) else (none)) else (none)) = some r := H
    have A3 := Aside0.mk A30
    clear A30
    by_cases c4 : 1 + t146.size ≤ 9223372036854775807
    · rw [if_pos c4] at H
      have c4b0 := eq_true c4
      have c4b1 : decide (1 + t146.size ≤ 9223372036854775807) = true := decide_eq_true c4
      try have c4b2 : (9223372036854775807 < 1 + t146.size) = False := eq_false (Nat.not_lt.2 c4)
      by_cases c5 : 1 + t146.size + 1 ≤ 9223372036854775807
      · rw [if_pos c5] at H
        have c5b0 := eq_true c5
        have c5b1 : decide (1 + t146.size + 1 ≤ 9223372036854775807) = true := decide_eq_true c5
        try have c5b2 : (9223372036854775807 < 1 + t146.size + 1) = False := eq_false (Nat.not_lt.2 c5)
        obtain rfl := Option.some.inj H
        go_enter Tryd.func26, Tryd.ntmps26
        go_wp2_with (first | ((with_reducible refine gate_callee (f := 142) rfl ?_); refine goesL_ (some 6) rfl rfl Tryd.func142 (by kernel_rfl) rfl #[.int .i64 a0] rfl (by (try simp only [List.map_toArray, List.map_cons, List.map_nil]); first | done | rfl | (simp only [List.length_drop, List.length_take]; rfl)) ?_; (with_reducible refine (taquinref01_digits.calls k a0 t146 _ A3.out).mono ?_); rintro e w6 ⟨rfl, hb⟩; refine ⟨_, rfl, ?_⟩; have n0_ := Aside0.mk (below_step (by repeat (first | (with_reducible first | exact HB.out | apply below_alloc | apply pw_below_drewN | apply below_drew1) | exact HB.out)) hb); clear HB; have HB := n0_; clear n0_; (try clear hb); (try clear hb2); (try clear hk); (try clear hi)))
        go_ret
        exact ⟨by first | rfl | (simp [errW_none, errW_some] <;> rfl) | (simp [*, errW_none, errW_some] <;> rfl), by repeat (first | (with_reducible first | exact HB.out | apply below_alloc | apply pw_below_drewN | apply below_drew1) | exact HB.out)⟩
      · rw [if_neg c5] at H
        exact absurd H (by simp)
    · rw [if_neg c4] at H
      exact absurd H (by simp)
  · rw [if_neg c2] at H
    have c2b0 : decide (a0 < 0) = false := decide_eq_false c2
    clear c2
    replace H := Option.bind_eq_some_iff.mp H
    obtain ⟨t147, A70, H⟩ := H
    replace H : (if t147.size + 1 ≤ 9223372036854775807 then (some (t147 ++ (⟨#[59]⟩ : ByteArray))) else (none)) = some r := H
    have A7 := Aside0.mk A70
    clear A70
    by_cases c8 : t147.size + 1 ≤ 9223372036854775807
    · rw [if_pos c8] at H
      have c8b0 := eq_true c8
      have c8b1 : decide (t147.size + 1 ≤ 9223372036854775807) = true := decide_eq_true c8
      try have c8b2 : (9223372036854775807 < t147.size + 1) = False := eq_false (Nat.not_lt.2 c8)
      obtain rfl := Option.some.inj H
      go_enter Tryd.func26, Tryd.ntmps26
      go_wp2_with (first | ((with_reducible refine gate_callee (f := 142) rfl ?_); refine goesL_ (some 11) rfl rfl Tryd.func142 (by kernel_rfl) rfl #[.int .i64 (wrap64 (-a0))] rfl (by (try simp only [List.map_toArray, List.map_cons, List.map_nil]); first | done | rfl | (simp only [List.length_drop, List.length_take]; rfl)) ?_; (with_reducible refine (taquinref01_digits.calls k (wrap64 (-a0)) t147 _ A7.out).mono ?_); rintro e w9 ⟨rfl, hb⟩; refine ⟨_, rfl, ?_⟩; have n0_ := Aside0.mk (below_step (by repeat (first | (with_reducible first | exact HB.out | apply below_alloc | apply pw_below_drewN | apply below_drew1) | exact HB.out)) hb); clear HB; have HB := n0_; clear n0_; (try clear hb); (try clear hb2); (try clear hk); (try clear hi)))
      go_ret
      exact ⟨by first | rfl | (simp [errW_none, errW_some] <;> rfl) | (simp [*, errW_none, errW_some] <;> rfl), by repeat (first | (with_reducible first | exact HB.out | apply below_alloc | apply pw_below_drewN | apply below_drew1) | exact HB.out)⟩
    · rw [if_neg c8] at H
      exact absurd H (by simp)

/-! ### taquinref01_Back: function 217 -/
mutual
def taquinref01_Back.j0 : Nat → ByteArray → Int → Bool → Option (Int × Bool)
  | 0, _, _, _ => none
  | k + 1, x0, x4, x14 => if x14 = true then (taquinref01_Back.j1 k x0 1) else (taquinref01_Back.j1 k x0 x4)
def taquinref01_Back.j1 : Nat → ByteArray → Int → Option (Int × Bool)
  | 0, _, _ => none
  | k + 1, x0, x4 => taquinref01_Back.l0 k x0 x4 0 x4
def taquinref01_Back.l0 : Nat → ByteArray → Int → Int → Int → Option (Int × Bool)
  | 0, _, _, _, _ => none
  | k + 1, x0, x4, x5, x6 => if x6 < (x0.size : Int) then (if 0 ≤ x6 then (if (bt x0 x6) < 48 then (some (0, false)) else (if (bt x0 x6) > 57 then (some (0, false)) else (if x6 > 20 then (some (0, false)) else (taquinref01_Back.l0 k x0 x4 (wrap64 ((wrap64 (10 * x5)) - (((bt x0 x6) - 48) % 256))) (wrap64 (x6 + 1)))))) else (none)) else (if x4 = 0 then ((taquinref01_Int.f k (wrap64 (-x5))).bind fun t148 => (if x0.size + 1 ≤ 9223372036854775807 then (some (wrap64 (-x5), (t148.toList == (x0 ++ (⟨#[59]⟩ : ByteArray)).toList))) else (none))) else ((taquinref01_Int.f k x5).bind fun t149 => (if x0.size + 1 ≤ 9223372036854775807 then (some (x5, (t149.toList == (x0 ++ (⟨#[59]⟩ : ByteArray)).toList))) else (none))))
end
def taquinref01_Back.f (k : Nat) (a0 : ByteArray) : Option (Int × Bool) := if (a0.size : Int) > 0 then (if 0 < (a0.size : Int) then (taquinref01_Back.j0 k a0 0 ((bt a0 0) == 45)) else (none)) else (taquinref01_Back.j0 k a0 0 false)
theorem taquinref01_Back.mono_l : ∀ k, (∀ y0 y1 y2, LeO (taquinref01_Back.j0 k y0 y1 y2) (taquinref01_Back.j0 (k + 1) y0 y1 y2)) ∧ (∀ y0 y1, LeO (taquinref01_Back.j1 k y0 y1) (taquinref01_Back.j1 (k + 1) y0 y1)) ∧ (∀ y0 y1 y2 y3, LeO (taquinref01_Back.l0 k y0 y1 y2 y3) (taquinref01_Back.l0 (k + 1) y0 y1 y2 y3))
  | 0 => ⟨fun _ _ _ r h => by simp [taquinref01_Back.j0] at h, fun _ _ r h => by simp [taquinref01_Back.j1] at h, fun _ _ _ _ r h => by simp [taquinref01_Back.l0] at h⟩
  | k + 1 => by
    obtain ⟨ih0, ih1, ih2⟩ := taquinref01_Back.mono_l k
    refine ⟨?_, ?_, ?_⟩
    · intro y0 y1 y2
      unfold taquinref01_Back.j0
      repeat' first
      | (with_reducible exact ih0 _ _ _)
      | (with_reducible exact ih1 _ _)
      | (with_reducible exact ih2 _ _ _ _)
      | (with_reducible exact taquinref01_Int.mono _ _)
      | (with_reducible exact LeO.refl _)
      | (with_reducible exact LeO.none _)
      | (with_reducible refine LeO.ite ?_ ?_)
      | (with_reducible refine LeO.bind ?_ (fun _ => ?_))
      | exact ih0 _ _ _
      | exact ih1 _ _
      | exact ih2 _ _ _ _
      | exact taquinref01_Int.mono _ _
      | exact LeO.none _
      | refine LeO.ite ?_ ?_
      | refine LeO.bind ?_ (fun _ => ?_)
    · intro y0 y1
      unfold taquinref01_Back.j1
      repeat' first
      | (with_reducible exact ih0 _ _ _)
      | (with_reducible exact ih1 _ _)
      | (with_reducible exact ih2 _ _ _ _)
      | (with_reducible exact taquinref01_Int.mono _ _)
      | (with_reducible exact LeO.refl _)
      | (with_reducible exact LeO.none _)
      | (with_reducible refine LeO.ite ?_ ?_)
      | (with_reducible refine LeO.bind ?_ (fun _ => ?_))
      | exact ih0 _ _ _
      | exact ih1 _ _
      | exact ih2 _ _ _ _
      | exact taquinref01_Int.mono _ _
      | exact LeO.none _
      | refine LeO.ite ?_ ?_
      | refine LeO.bind ?_ (fun _ => ?_)
    · intro y0 y1 y2 y3
      unfold taquinref01_Back.l0
      repeat' first
      | (with_reducible exact ih0 _ _ _)
      | (with_reducible exact ih1 _ _)
      | (with_reducible exact ih2 _ _ _ _)
      | (with_reducible exact taquinref01_Int.mono _ _)
      | (with_reducible exact LeO.refl _)
      | (with_reducible exact LeO.none _)
      | (with_reducible refine LeO.ite ?_ ?_)
      | (with_reducible refine LeO.bind ?_ (fun _ => ?_))
      | exact ih0 _ _ _
      | exact ih1 _ _
      | exact ih2 _ _ _ _
      | exact taquinref01_Int.mono _ _
      | exact LeO.none _
      | refine LeO.ite ?_ ?_
      | refine LeO.bind ?_ (fun _ => ?_)
theorem taquinref01_Back.mono : ∀ a0 k, LeO (taquinref01_Back.f k a0) (taquinref01_Back.f (k + 1) a0) := by
  intro a0 k
  obtain ⟨ih0, ih1, ih2⟩ := taquinref01_Back.mono_l k
  unfold taquinref01_Back.f
  repeat' first
      | (with_reducible exact ih0 _ _ _)
      | (with_reducible exact ih1 _ _)
      | (with_reducible exact ih2 _ _ _ _)
      | (with_reducible exact taquinref01_Int.mono _ _)
      | (with_reducible exact LeO.refl _)
      | (with_reducible exact LeO.none _)
      | (with_reducible refine LeO.ite ?_ ?_)
      | (with_reducible refine LeO.bind ?_ (fun _ => ?_))
      | exact ih0 _ _ _
      | exact ih1 _ _
      | exact ih2 _ _ _ _
      | exact taquinref01_Int.mono _ _
      | exact LeO.none _
      | refine LeO.ite ?_ ?_
      | refine LeO.bind ?_ (fun _ => ?_)
set_option maxHeartbeats 8000000 in
set_option maxRecDepth 100000 in
theorem taquinref01_Back.calls (k : Nat) (a0 : ByteArray) (r1 : Int) (r2 : Bool) (w : World) (h : taquinref01_Back.f k a0 = some (r1, r2)) :
    Calls Tryd.prog 217 #[.string a0] w fun e w' => e = .returned (.tuple #[.int .i64 r1, .bool r2]) ∧ Below w.heap.size w w' := by
  have HB := Aside0.mk (Below.refl w.heap.size w)
  have H : (if (a0.size : Int) > 0 then (if 0 < (a0.size : Int) then (taquinref01_Back.j0 k a0 0 ((bt a0 0) == 45)) else (none)) else (taquinref01_Back.j0 k a0 0 false)) = some (r1, r2) := h
  clear h
  have HC2 := Aside0.mk H
  clear H
  go_enter Tryd.func217, Tryd.ntmps217
  go_upto_region 2 with (fail)
  go_cut [14] (fun v14 wc => ∃ (kq : Nat) (x14_1 : Bool), v14 = .bool x14_1 ∧ Aside0 (taquinref01_Back.j0 kq a0 0 x14_1 = some (r1, r2)) ∧ Aside0 (kq ≤ k) ∧ Aside0 (Below w.heap.size w wc))
  case first =>
    have H := HC2.out
    clear HC2
    by_cases c3 : (a0.size : Int) > 0
    · rw [if_pos c3] at H
      have c3b0 : decide (0 < (a0.size : Int)) = true := decide_eq_true c3
      have c3b1 : decide (0 < a0.size) = true := decide_eq_true (by omega)
      clear c3
      (first | rw [c3b0] | (simp only [i64_w, i32_w]; rw [c3b0]) | skip)
      by_cases c4 : 0 < (a0.size : Int)
      · rw [if_pos c4] at H
        have c4b0 : decide (0 < (a0.size : Int)) = true := decide_eq_true c4
        have c4b1 : decide (0 < a0.size) = true := decide_eq_true (by omega)
        clear c4
        have H' := Aside0.mk H
        clear H
        have p5 : 0 ≤ (0 : Int) := (by omega)
        have q5 : 0 < a0.size := (by have : (0 : Int) < (a0.size : Int) := of_decide_eq_true (by first | (with_reducible assumption) | assumption); omega)
        have hx5 : ∀ h : 0 < a0.size, ((a0[0]'h).toNat : Int) = bt a0 0 := bt_at a0 0
        clear p5
        have qi5 : (0 < (a0.size : Int)) = True := eq_true (of_decide_eq_true (by first | (with_reducible assumption) | assumption))
        replace q5 := eq_true q5
        go_wp2
        go_meet
        case rel => exact ⟨_, (((bt a0 0) == 45)), (by first | rfl | (simp; done) | (simp [*]; done)), H', ⟨by first | omega | exact Nat.le_refl _⟩, ⟨by repeat (first | (with_reducible first | exact HB.out | apply below_alloc | apply pw_below_drewN | apply below_drew1) | exact HB.out)⟩⟩
      · rw [if_neg c4] at H
        exact absurd H (by simp)
    · rw [if_neg c3] at H
      have c3b0 : decide (0 < (a0.size : Int)) = false := decide_eq_false c3
      have c3b1 : decide (0 < a0.size) = false := decide_eq_false (by omega)
      clear c3
      (first | rw [c3b0] | (simp only [i64_w, i32_w]; rw [c3b0]) | skip)
      have H' := Aside0.mk H
      clear H
      go_wp2
      go_meet
      case rel => exact ⟨_, (false), (by first | rfl | (simp; done) | (simp [*]; done)), H', ⟨by first | omega | exact Nat.le_refl _⟩, ⟨by repeat (first | (with_reducible first | exact HB.out | apply below_alloc | apply pw_below_drewN | apply below_drew1) | exact HB.out)⟩⟩
  case rest =>
    clear HC2
    try clear c2
    try clear p2
    try clear c3
    try clear c3b0
    try clear c3b1
    try clear c4
    try clear c4b0
    try clear c4b1
    try clear p5
    try clear q5
    try clear hx5
    try clear qi5
    try clear p5
    try clear q5
    obtain ⟨kq, x14_1, rfl, HA, HJ1, HB⟩ := hcut
    cases kq with
    | zero => exact absurd HA.out (by simp [taquinref01_Back.j0])
    | succ kj1 =>
      have H := HA.out
      clear HA
      simp only [taquinref01_Back.j0] at H
      have HC6 := Aside0.mk H
      clear H
      go_upto_if 14 with (fail)
      go_cut [4] (fun v4 wc => ∃ (kq : Nat) (x4_5 : Int), v4 = .int .i64 x4_5 ∧ Aside0 (taquinref01_Back.j1 kq a0 x4_5 = some (r1, r2)) ∧ Aside0 (kq ≤ kj1) ∧ Aside0 (Below w.heap.size w wc))
      case first =>
        have H := HC6.out
        clear HC6
        by_cases c7 : x14_1 = true
        · subst c7
          have H1 : (taquinref01_Back.j1 kj1 a0 1) = some (r1, r2) := by rw [if_pos rfl] at H; exact H
          clear H
          have H := H1
          clear H1
          have H' := Aside0.mk H
          clear H
          go_wp2
          go_meet
          case rel => exact ⟨_, (1), (by first | rfl | (simp; done) | (simp [*]; done)), H', ⟨by have := HJ1.out; first | omega | exact Nat.le_refl _⟩, ⟨by repeat (first | (with_reducible first | exact HB.out | apply below_alloc | apply pw_below_drewN | apply below_drew1) | exact HB.out)⟩⟩
        · replace c7 := Bool.eq_false_iff.mpr c7
          subst c7
          have H1 : (taquinref01_Back.j1 kj1 a0 0) = some (r1, r2) := by rw [if_neg (show ¬ (false = true) by decide)] at H; exact H
          clear H
          have H := H1
          clear H1
          have H' := Aside0.mk H
          clear H
          go_wp2
          go_meet
          case rel => exact ⟨_, (0), (by first | rfl | (simp; done) | (simp [*]; done)), H', ⟨by have := HJ1.out; first | omega | exact Nat.le_refl _⟩, ⟨by repeat (first | (with_reducible first | exact HB.out | apply below_alloc | apply pw_below_drewN | apply below_drew1) | exact HB.out)⟩⟩
      case rest =>
        clear HC6
        try clear c2
        try clear p2
        try clear c3
        try clear c3b0
        try clear c3b1
        try clear c4
        try clear c4b0
        try clear c4b1
        try clear p5
        try clear q5
        try clear hx5
        try clear qi5
        try clear c7
        try clear p2
        try clear p5
        try clear q5
        obtain ⟨kq, x4_5, rfl, HA, HJ5, HB⟩ := hcut
        cases kq with
        | zero => exact absurd HA.out (by simp [taquinref01_Back.j1])
        | succ kj5 =>
          have H := HA.out
          clear HA
          simp only [taquinref01_Back.j1] at H
          have H' := Aside0.mk H
          clear H
          go_wp2
          go_loopg [5, 6] kj5 (fun kq v5 v6 w' => ∃ (x5_3 : Int) (x6_3 : Int), v5 = .int .i64 x5_3 ∧ v6 = .int .i64 x6_3 ∧ Aside0 (taquinref01_Back.l0 kq a0 x4_5 x5_3 x6_3 = some (r1, r2)) ∧ Aside0 (kq ≤ kj5) ∧ Aside0 (Below w.heap.size w w'))
          case atStart => exact ⟨(0), (x4_5), (by first | rfl | (simp; done) | (simp [*]; done)), (by first | rfl | (simp; done) | (simp [*]; done)), H', ⟨Nat.le_refl _⟩, ⟨by repeat (first | (with_reducible first | exact HB.out | apply below_alloc | apply pw_below_drewN | apply below_drew1) | exact HB.out)⟩⟩
          case round =>
            clear H'
            try clear c2
            try clear p2
            try clear c3
            try clear c3b0
            try clear c3b1
            try clear c4
            try clear c4b0
            try clear c4b1
            try clear p5
            try clear q5
            try clear hx5
            try clear qi5
            try clear c7
            try clear p2
            try clear p5
            try clear q5
            obtain ⟨x5_3, x6_3, rfl, rfl, HA, HK3, HB⟩ := hrel
            cases gk with
            | zero => exact absurd HA.out (by simp [taquinref01_Back.l0])
            | succ k3 =>
              have H := HA.out
              clear HA
              simp only [taquinref01_Back.l0] at H
              by_cases c8 : x6_3 < (a0.size : Int)
              · rw [if_pos c8] at H
                have c8b0 : decide (x6_3 < (a0.size : Int)) = true := decide_eq_true c8
                clear c8
                by_cases c9 : 0 ≤ x6_3
                · rw [if_pos c9] at H
                  have c9b0 : decide (0 ≤ x6_3) = true := decide_eq_true c9
                  clear c9
                  by_cases c11 : (bt a0 x6_3) < 48
                  · rw [if_pos c11] at H
                    have c11b0 : decide ((bt a0 x6_3) < 48) = true := decide_eq_true c11
                    clear c11
                    simp only [Option.some.injEq, Prod.mk.injEq] at H
                    obtain ⟨rfl, rfl⟩ := H
                    have p10 : 0 ≤ (x6_3 : Int) := of_decide_eq_true (by first | (with_reducible assumption) | assumption)
                    have q10 : x6_3 < (a0.size : Int) := of_decide_eq_true (by first | (with_reducible assumption) | assumption)
                    have hx10 := bt_at a0 x6_3
                    replace p10 := eq_true p10
                    replace q10 := eq_true q10
                    go_wp2
                    go_ret2
                    exact ⟨by first | rfl | (simp [errW_none, errW_some] <;> rfl) | (simp [*, errW_none, errW_some] <;> rfl), by repeat (first | (with_reducible first | exact HB.out | apply below_alloc | apply pw_below_drewN | apply below_drew1) | exact HB.out)⟩
                  · rw [if_neg c11] at H
                    have c11b0 : decide ((bt a0 x6_3) < 48) = false := decide_eq_false c11
                    clear c11
                    by_cases c13 : (bt a0 x6_3) > 57
                    · rw [if_pos c13] at H
                      have c13b0 : decide (57 < (bt a0 x6_3)) = true := decide_eq_true c13
                      clear c13
                      simp only [Option.some.injEq, Prod.mk.injEq] at H
                      obtain ⟨rfl, rfl⟩ := H
                      have p10 : 0 ≤ (x6_3 : Int) := of_decide_eq_true (by first | (with_reducible assumption) | assumption)
                      have q10 : x6_3 < (a0.size : Int) := of_decide_eq_true (by first | (with_reducible assumption) | assumption)
                      have hx10 := bt_at a0 x6_3
                      replace p10 := eq_true p10
                      replace q10 := eq_true q10
                      have p12 : 0 ≤ (x6_3 : Int) := of_decide_eq_true (by first | (with_reducible assumption) | assumption)
                      have q12 : x6_3 < (a0.size : Int) := of_decide_eq_true (by first | (with_reducible assumption) | assumption)
                      have hx12 := bt_at a0 x6_3
                      replace p12 := eq_true p12
                      replace q12 := eq_true q12
                      go_wp2
                      go_ret2
                      exact ⟨by first | rfl | (simp [errW_none, errW_some] <;> rfl) | (simp [*, errW_none, errW_some] <;> rfl), by repeat (first | (with_reducible first | exact HB.out | apply below_alloc | apply pw_below_drewN | apply below_drew1) | exact HB.out)⟩
                    · rw [if_neg c13] at H
                      have c13b0 : decide (57 < (bt a0 x6_3)) = false := decide_eq_false c13
                      clear c13
                      by_cases c14 : x6_3 > 20
                      · rw [if_pos c14] at H
                        have c14b0 : decide (20 < x6_3) = true := decide_eq_true c14
                        clear c14
                        simp only [Option.some.injEq, Prod.mk.injEq] at H
                        obtain ⟨rfl, rfl⟩ := H
                        have p10 : 0 ≤ (x6_3 : Int) := of_decide_eq_true (by first | (with_reducible assumption) | assumption)
                        have q10 : x6_3 < (a0.size : Int) := of_decide_eq_true (by first | (with_reducible assumption) | assumption)
                        have hx10 := bt_at a0 x6_3
                        replace p10 := eq_true p10
                        replace q10 := eq_true q10
                        have p12 : 0 ≤ (x6_3 : Int) := of_decide_eq_true (by first | (with_reducible assumption) | assumption)
                        have q12 : x6_3 < (a0.size : Int) := of_decide_eq_true (by first | (with_reducible assumption) | assumption)
                        have hx12 := bt_at a0 x6_3
                        replace p12 := eq_true p12
                        replace q12 := eq_true q12
                        go_wp2
                        go_ret2
                        exact ⟨by first | rfl | (simp [errW_none, errW_some] <;> rfl) | (simp [*, errW_none, errW_some] <;> rfl), by repeat (first | (with_reducible first | exact HB.out | apply below_alloc | apply pw_below_drewN | apply below_drew1) | exact HB.out)⟩
                      · rw [if_neg c14] at H
                        have c14b0 : decide (20 < x6_3) = false := decide_eq_false c14
                        clear c14
                        have H' := Aside0.mk H
                        clear H
                        have p10 : 0 ≤ (x6_3 : Int) := of_decide_eq_true (by first | (with_reducible assumption) | assumption)
                        have q10 : x6_3 < (a0.size : Int) := of_decide_eq_true (by first | (with_reducible assumption) | assumption)
                        have hx10 := bt_at a0 x6_3
                        replace p10 := eq_true p10
                        replace q10 := eq_true q10
                        have p12 : 0 ≤ (x6_3 : Int) := of_decide_eq_true (by first | (with_reducible assumption) | assumption)
                        have q12 : x6_3 < (a0.size : Int) := of_decide_eq_true (by first | (with_reducible assumption) | assumption)
                        have hx12 := bt_at a0 x6_3
                        replace p12 := eq_true p12
                        replace q12 := eq_true q12
                        have p15 : 0 ≤ (x6_3 : Int) := of_decide_eq_true (by first | (with_reducible assumption) | assumption)
                        have q15 : x6_3 < (a0.size : Int) := of_decide_eq_true (by first | (with_reducible assumption) | assumption)
                        have hx15 := bt_at a0 x6_3
                        replace p15 := eq_true p15
                        replace q15 := eq_true q15
                        go_wp2
                        go_roundg k3
                        case measure => have := HJ1.out; have := HJ5.out; have := HK3.out; omega
                        case rel => exact ⟨(wrap64 ((wrap64 (10 * x5_3)) - (((bt a0 x6_3) - 48) % 256))), (wrap64 (x6_3 + 1)), (by first | rfl | (simp; done) | (simp [*]; done)), (by first | rfl | (simp; done) | (simp [*]; done)), H', ⟨by have := HJ1.out; have := HJ5.out; have := HK3.out; omega⟩, ⟨by repeat (first | (with_reducible first | exact HB.out | apply below_alloc | apply pw_below_drewN | apply below_drew1) | exact HB.out)⟩⟩
                · rw [if_neg c9] at H
                  exact absurd H (by simp)
              · rw [if_neg c8] at H
                have c8b0 : decide (x6_3 < (a0.size : Int)) = false := decide_eq_false c8
                clear c8
                by_cases c16 : x4_5 = 0
                · rw [if_pos c16] at H
                  have c16b0 : (x4_5 == 0) = true := beq_iff_eq.mpr c16
                  have c16b1 : (x4_5 != 0) = false := bne_eq_false_iff_eq.mpr c16
                  clear c16
                  replace H := Option.bind_eq_some_iff.mp H
                  obtain ⟨t148, A170, H⟩ := H
                  replace H : (if a0.size + 1 ≤ 9223372036854775807 then (some (wrap64 (-x5_3), (t148.toList == (a0 ++ (⟨#[59]⟩ : ByteArray)).toList))) else (none)) = some (r1, r2) := H
                  have A17 := Aside0.mk A170
                  clear A170
                  by_cases c18 : a0.size + 1 ≤ 9223372036854775807
                  · rw [if_pos c18] at H
                    have c18b0 := eq_true c18
                    have c18b1 : decide (a0.size + 1 ≤ 9223372036854775807) = true := decide_eq_true c18
                    try have c18b2 : (9223372036854775807 < a0.size + 1) = False := eq_false (Nat.not_lt.2 c18)
                    simp only [Option.some.injEq, Prod.mk.injEq] at H
                    obtain ⟨rfl, rfl⟩ := H
                    go_wp2_with (first | ((with_reducible refine gate_callee (f := 26) rfl ?_); refine goesL_ (some 50) rfl rfl Tryd.func26 (by kernel_rfl) rfl #[.int .i64 (wrap64 (-x5_3))] rfl (by (try simp only [List.map_toArray, List.map_cons, List.map_nil]); first | done | rfl | (simp only [List.length_drop, List.length_take]; rfl)) ?_; (with_reducible refine (taquinref01_Int.calls k3 (wrap64 (-x5_3)) t148 _ A17.out).mono ?_); rintro e w19 ⟨rfl, hb⟩; refine ⟨_, rfl, ?_⟩; have n0_ := Aside0.mk (below_step (by repeat (first | (with_reducible first | exact HB.out | apply below_alloc | apply pw_below_drewN | apply below_drew1) | exact HB.out)) hb); clear HB; have HB := n0_; clear n0_; (try clear hb); (try clear hb2); (try clear hk); (try clear hi)))
                    go_ret2
                    exact ⟨by first | rfl | (simp [errW_none, errW_some] <;> rfl) | (simp [*, errW_none, errW_some] <;> rfl), by repeat (first | (with_reducible first | exact HB.out | apply below_alloc | apply pw_below_drewN | apply below_drew1) | exact HB.out)⟩
                  · rw [if_neg c18] at H
                    exact absurd H (by simp)
                · rw [if_neg c16] at H
                  have c16b0 : (x4_5 == 0) = false := beq_eq_false_iff_ne.mpr c16
                  have c16b1 : (x4_5 != 0) = true := bne_iff_ne.mpr c16
                  replace H := Option.bind_eq_some_iff.mp H
                  obtain ⟨t149, A200, H⟩ := H
                  replace H : (if a0.size + 1 ≤ 9223372036854775807 then (some (x5_3, (t149.toList == (a0 ++ (⟨#[59]⟩ : ByteArray)).toList))) else (none)) = some (r1, r2) := H
                  have A20 := Aside0.mk A200
                  clear A200
                  by_cases c21 : a0.size + 1 ≤ 9223372036854775807
                  · rw [if_pos c21] at H
                    have c21b0 := eq_true c21
                    have c21b1 : decide (a0.size + 1 ≤ 9223372036854775807) = true := decide_eq_true c21
                    try have c21b2 : (9223372036854775807 < a0.size + 1) = False := eq_false (Nat.not_lt.2 c21)
                    simp only [Option.some.injEq, Prod.mk.injEq] at H
                    obtain ⟨rfl, rfl⟩ := H
                    go_wp2_with (first | ((with_reducible refine gate_callee (f := 26) rfl ?_); refine goesL_ (some 50) rfl rfl Tryd.func26 (by kernel_rfl) rfl #[.int .i64 x5_3] rfl (by (try simp only [List.map_toArray, List.map_cons, List.map_nil]); first | done | rfl | (simp only [List.length_drop, List.length_take]; rfl)) ?_; (with_reducible refine (taquinref01_Int.calls k3 x5_3 t149 _ A20.out).mono ?_); rintro e w22 ⟨rfl, hb⟩; refine ⟨_, rfl, ?_⟩; have n0_ := Aside0.mk (below_step (by repeat (first | (with_reducible first | exact HB.out | apply below_alloc | apply pw_below_drewN | apply below_drew1) | exact HB.out)) hb); clear HB; have HB := n0_; clear n0_; (try clear hb); (try clear hb2); (try clear hk); (try clear hi)))
                    go_ret2
                    exact ⟨by first | rfl | (simp [errW_none, errW_some] <;> rfl) | (simp [*, errW_none, errW_some] <;> rfl), by repeat (first | (with_reducible first | exact HB.out | apply below_alloc | apply pw_below_drewN | apply below_drew1) | exact HB.out)⟩
                  · rw [if_neg c21] at H
                    exact absurd H (by simp)

end Go.Proofs.YtigdjhnpngjhjaaDoor.PWt
