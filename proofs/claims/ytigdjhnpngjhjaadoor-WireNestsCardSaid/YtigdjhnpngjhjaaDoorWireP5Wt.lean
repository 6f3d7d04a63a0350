/- WireNests as a law over numbers and lists: no program in sight. -/
import Derived.Test.YtigdjhnpngjhjaaDoorWireVWt
import Derived.Test.YtigdjhnpngjhjaaDoorPWtx10
namespace Go.Proofs.YtigdjhnpngjhjaaDoor.WireP5Wt
open Go.RowKit Go.Proofs.YtigdjhnpngjhjaaDoor.PWt Go.Proofs.YtigdjhnpngjhjaaDoorW.PrintWords Go.Proofs.YtigdjhnpngjhjaaDoorW.PrintLast Go.Proofs.YtigdjhnpngjhjaaDoorW.PrintMore Go.Proofs.YtigdjhnpngjhjaaDoor.WireMath Go.Proofs.YtigdjhnpngjhjaaDoor.WireWWt Go.Proofs.YtigdjhnpngjhjaaDoor.WireSWt Go.Proofs.YtigdjhnpngjhjaaDoor.WireVWt
set_option linter.unusedVariables false
def parts (l : List S25) : List ByteArray := l.map fun v => B (encV v)
theorem bs_parts (l : List S25) : wire_Texts.bs (parts l) = l.map encV := by
  unfold wire_Texts.bs parts
  rw [List.map_map]
  exact List.map_congr_left fun a _ => rfl
theorem rd_at (l : List S25) (i : Nat) (hi : i < l.length) : rd_T25 l (i : Int) = l[i] := by unfold rd_T25; simp [List.getD, hi]
theorem part_at (l : List S25) (i : Nat) (hi : i < l.length) : rdOf ByteArray.empty (parts l) (i : Int) = B (encV l[i]) := by unfold rdOf parts; simp [List.getD, hi]
theorem parts_length (l : List S25) : (parts l).length = l.length := by simp [parts]
theorem l1_ev (l : List S25) (h : ∀ v ∈ l, Is v ∧ WireSWt.Good v) (hl : l.length ≤ 20) : ∀ (d i : Nat), l.length - i = d → i ≤ l.length →
    Ev (fun k => taquinlaw01_WireNests.l1 k l true (parts l) (i : Int)) true := by
  intro d
  induction d with
  | zero =>
    intro i hd hi
    refine Ev.step (f := fun k => some true) (fun k => ?_) (Ev.now _)
    simp only [taquinlaw01_WireNests.l1]
    rw [if_neg (by omega)]
  | succ d ih =>
    intro i hd hi
    have hlt : i < l.length := by omega
    have hm := h l[i] (List.getElem_mem hlt)
    refine Ev.step (f := fun k => (taquinlaw01_equal.f k (B (encV l[i] ++ [])) false l[i].f0 l[i].f1 l[i].f2 l[i].f3 l[i].f4).bind fun bt393 => (if bt393.1 = true then ((wire_Reader_Done.f bt393.2.1 bt393.2.2).bind fun bt396 => (if bt396.1 = true then (taquinlaw01_WireNests.l1 k l true (parts l) ((i + 1 : Nat) : Int)) else (none))) else (none))) (fun k => ?_) ?_
    · simp only [taquinlaw01_WireNests.l1]
      rw [if_pos (by omega), if_pos (by omega), if_pos (by rw [parts_length]; omega), rd_at l i hlt, part_at l i hlt, w64 (x := (i : Int) + 1) (by omega) (by omega), List.append_nil]
      rfl
    · refine Ev.bind (equal_ev hm.1 hm.2 [] (by simp)) ?_
      refine Ev.congr (fun k => if_pos rfl) ?_
      rw [WireRWt.done]
      simp only [Option.bind_some]
      refine Ev.congr (fun k => if_pos (by rfl)) ?_
      exact ih (i + 1) (by omega) (by omega)
theorem l0_ev (l : List S25) (h : ∀ v ∈ l, Is v ∧ WireSWt.Good v) (hl : l.length ≤ 20) : ∀ (d i : Nat), l.length - i = d → i ≤ l.length →
    Ev (fun k => taquinlaw01_WireNests.l0 k l true (parts (l.take i)) (i : Int)) true := by
  have hsz : ∀ x ∈ l.map encV, x.length ≤ 200000 := by
    intro x hx
    obtain ⟨v, hv, rfl⟩ := List.mem_map.1 hx
    exact encV_le (h v hv).1 (h v hv).2
  have hT := encTexts_le (l.map encV) 200000 hsz (by omega) (by simp; omega)
  rw [List.length_map] at hT
  have hT2 := encText_le (encTexts (l.map encV)) (by omega)
  intro d
  induction d with
  | zero =>
    intro i hd hi
    refine Ev.step (f := fun k => taquinlaw01_WireNests.j1 k l true (parts l) false) (fun k => ?_) ?_
    · simp only [taquinlaw01_WireNests.l0]
      rw [if_neg (by omega), List.take_of_length_le (by omega)]
      rw [texts_eq (l := parts l) (fun x hx => by obtain ⟨v, hv, rfl⟩ := List.mem_map.1 hx; rw [b_size]; have := encV_le (h v hv).1 (h v hv).2; omega) (by rw [bs_parts]; omega), Option.bind_some, bs_parts]
      rw [text_eq (by rw [b_size]; omega), Option.bind_some]
      rw [show (B (encTexts (l.map encV))).data.toList = encTexts (l.map encV) from List.toList_toArray]
      rw [show wire_Open.f (B (encText (encTexts (l.map encV)))) = some (B (encText (encTexts (l.map encV)) ++ []), false) by rw [List.append_nil]; rfl, Option.bind_some, WireRWt.text, Option.bind_some, rText_enc (by omega) [] false rfl]
      rw [show wire_Open.f (B (encTexts (l.map encV))) = some (B (encTexts (l.map encV) ++ []), false) by rw [List.append_nil]; rfl, Option.bind_some, WireRWt.done, Option.bind_some, if_pos (by rfl)]
      rw [WireRWt.texts _ _ (by rw [List.append_nil]; omega), Option.bind_some, rTexts_enc (by rw [List.length_map]; omega) (fun x hx => by have := hsz x hx; omega) []]
      rw [if_pos (by simp), WireRWt.done, Option.bind_some]
      rw [List.map_map]
      rfl
    · refine Ev.step (f := fun k => taquinlaw01_WireNests.l1 k l true (parts l) ((0 : Nat) : Int)) (fun k => ?_) (l1_ev l h hl l.length 0 (by omega) (by omega))
      simp only [taquinlaw01_WireNests.j1, Bool.false_eq_true, if_false]
      rfl
  | succ d ih =>
    intro i hd hi
    have hlt : i < l.length := by omega
    have hm := h l[i] (List.getElem_mem hlt)
    have hc : parts (l.take (i + 1)) = parts (l.take i) ++ [B (encV l[i])] := by
      rw [List.take_succ_eq_append_getElem hlt]; simp only [parts, List.map_append, List.map_cons, List.map_nil]
    refine Ev.step (f := fun k => taquinlaw01_WireNests.l0 k l true (parts (l.take (i + 1))) ((i + 1 : Nat) : Int)) (fun k => ?_) (ih (i + 1) (by omega) (by omega))
    simp only [taquinlaw01_WireNests.l0]
    rw [if_pos (by omega), if_pos (by omega), rd_at l i hlt, write_eq hm.1 hm.2, Option.bind_some, if_pos (by rw [parts_length, List.length_take]; omega), hc, w64 (x := (i : Int) + 1) (by omega) (by omega)]
    rfl
theorem nests (l : List S25) (h : ∀ v ∈ l, Is v) : ∃ k, taquinlaw01_WireNests.f k l = some true := by
  refine Ev.rounds (g := fun k => taquinlaw01_WireNests.f k l) ?_
  unfold taquinlaw01_WireNests.f
  refine Ev.bind small_ev ?_
  obtain ⟨b, hf, hg⟩ := few_ev l
  refine Ev.bind hf ?_
  cases b with
  | false => exact Ev.congr (fun k => by simp only [Bool.false_eq_true, if_false]) (Ev.now _)
  | true =>
    obtain ⟨hl, hgood⟩ := hg rfl
    refine Ev.congr (fun k => if_pos rfl) ?_
    exact l0_ev l (fun v hv => ⟨h v hv, hgood v hv⟩) hl l.length 0 (by omega) (by omega)
end Go.Proofs.YtigdjhnpngjhjaaDoor.WireP5Wt
