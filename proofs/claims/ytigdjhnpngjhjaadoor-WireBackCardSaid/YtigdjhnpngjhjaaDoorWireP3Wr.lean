/- WireBack as a law over numbers and lists: no program in sight. -/
import Derived.Test.YtigdjhnpngjhjaaDoorWireVWr
import Derived.Test.YtigdjhnpngjhjaaDoorPWrx9
namespace Go.Proofs.YtigdjhnpngjhjaaDoor.WireP3Wr
open Go.RowKit Go.Proofs.YtigdjhnpngjhjaaDoor.PWr Go.Proofs.YtigdjhnpngjhjaaDoorW.PrintWords Go.Proofs.YtigdjhnpngjhjaaDoorW.PrintLast Go.Proofs.YtigdjhnpngjhjaaDoorW.PrintMore Go.Proofs.YtigdjhnpngjhjaaDoor.WireMath Go.Proofs.YtigdjhnpngjhjaaDoor.WireWWr Go.Proofs.YtigdjhnpngjhjaaDoor.WireSWr Go.Proofs.YtigdjhnpngjhjaaDoor.WireVWr
set_option linter.unusedVariables false
def cat (l : List S25) : Bytes := (l.map encV).flatten
theorem cat_le (l : List S25) (h : ∀ v ∈ l, Is v ∧ WireSWr.Good v) : (cat l).length ≤ l.length * 200000 := flat_le encV 200000 l fun v hv => encV_le (h v hv).1 (h v hv).2
theorem rd_at (l : List S25) (i : Nat) (hi : i < l.length) : rd_T25 l (i : Int) = l[i] := by unfold rd_T25; simp [List.getD, hi]
theorem l1_ev (l : List S25) (tail : Bytes) (h : ∀ v ∈ l, Is v ∧ WireSWr.Good v) (hl : l.length ≤ 20) (ht : tail.length ≤ 400) : ∀ (d i : Nat), l.length - i = d → i ≤ l.length →
    Ev (fun k => taquinlaw01_WireBack.l1 k l (B tail) true (i : Int) (B (cat (l.drop i) ++ tail)) false) true := by
  intro d
  induction d with
  | zero =>
    intro i hd hi
    refine Ev.step (f := fun k => some true) (fun k => ?_) (Ev.now _)
    simp only [taquinlaw01_WireBack.l1]
    rw [if_neg (by omega), List.drop_of_length_le (by omega)]
    rw [show cat [] ++ tail = tail from rfl, WireRWr.left, Option.bind_some, WireRWr.done, Option.bind_some, if_pos trivial, if_pos (by rw [b_size])]
    rw [b_toList]
    have e : (((!false && tail.isEmpty) == (tail == ([] : List UInt8))) = true) := by cases tail <;> rfl
    rw [if_pos e]
    rw [show wire_Reader_Rest.f (B tail) false = some (B tail, B [], false) from rfl, Option.bind_some, if_pos (by rw [b_toList]), WireRWr.done, Option.bind_some, if_pos (by rfl), WireRWr.left, Option.bind_some]
    rfl
  | succ d ih =>
    intro i hd hi
    have hlt : i < l.length := by omega
    have hm := h l[i] (List.getElem_mem hlt)
    have hc : cat (l.drop i) ++ tail = encV l[i] ++ (cat (l.drop (i + 1)) ++ tail) := by
      rw [List.drop_eq_getElem_cons hlt]; simp only [cat, List.map_cons, List.flatten_cons, List.append_assoc]
    have hr := cat_le (l.drop (i + 1)) (fun v hv => h v (List.mem_of_mem_drop hv))
    have hr2 : (l.drop (i + 1)).length ≤ 20 := by rw [List.length_drop]; omega
    refine Ev.step (f := fun k => (taquinlaw01_equal.f k (B (encV l[i] ++ (cat (l.drop (i + 1)) ++ tail))) false l[i].f0 l[i].f1 l[i].f2 l[i].f3 l[i].f4).bind fun bt448 => (if bt448.1 = true then (taquinlaw01_WireBack.l1 k l (B tail) true ((i + 1 : Nat) : Int) bt448.2.1 bt448.2.2) else (none))) (fun k => ?_) ?_
    · simp only [taquinlaw01_WireBack.l1]
      rw [if_pos (by omega), if_pos (by omega), rd_at l i hlt, hc, w64 (x := (i : Int) + 1) (by omega) (by omega)]
      rfl
    · refine Ev.bind (equal_ev hm.1 hm.2 _ (by rw [List.length_append]; omega)) ?_
      refine Ev.congr (fun k => if_pos rfl) ?_
      exact ih (i + 1) (by omega) (by omega)
theorem l0_ev (l : List S25) (tail : Bytes) (h : ∀ v ∈ l, Is v ∧ WireSWr.Good v) (hl : l.length ≤ 20) (ht : tail.length ≤ 400) : ∀ (d i : Nat), l.length - i = d → i ≤ l.length →
    Ev (fun k => taquinlaw01_WireBack.l0 k l (B tail) true (B (cat (l.take i))) (i : Int)) true := by
  have hall := cat_le l h
  intro d
  induction d with
  | zero =>
    intro i hd hi
    refine Ev.step (f := fun k => taquinlaw01_WireBack.l1 k l (B tail) true ((0 : Nat) : Int) (B (cat (l.drop 0) ++ tail)) false) (fun k => ?_) (l1_ev l tail h hl ht l.length 0 (by omega) (by omega))
    simp only [taquinlaw01_WireBack.l0]
    rw [if_neg (by omega), List.take_of_length_le (by omega), if_pos (by rw [b_size, b_size]; omega), b_append]
    rfl
  | succ d ih =>
    intro i hd hi
    have hlt : i < l.length := by omega
    have hm := h l[i] (List.getElem_mem hlt)
    have hv := encV_le hm.1 hm.2
    have ht1 := cat_le (l.take i) (fun v hv => h v (List.mem_of_mem_take hv))
    have ht2 : (l.take i).length ≤ 20 := by rw [List.length_take]; omega
    have hc : cat (l.take (i + 1)) = cat (l.take i) ++ encV l[i] := by
      rw [List.take_succ_eq_append_getElem hlt]; simp only [cat, List.map_append, List.map_cons, List.map_nil, List.flatten_append, List.flatten_cons, List.flatten_nil, List.append_nil]
    refine Ev.step (f := fun k => taquinlaw01_WireBack.l0 k l (B tail) true (B (cat (l.take (i + 1)))) ((i + 1 : Nat) : Int)) (fun k => ?_) (ih (i + 1) (by omega) (by omega))
    simp only [taquinlaw01_WireBack.l0]
    rw [if_pos (by omega), if_pos (by omega), rd_at l i hlt, write_eq hm.1 hm.2, Option.bind_some, if_pos (by rw [b_size, b_size]; omega), b_append, hc, w64 (x := (i : Int) + 1) (by omega) (by omega)]
    rfl
theorem back (l : List S25) (tail : ByteArray) (h : ∀ v ∈ l, Is v) : ∃ k, taquinlaw01_WireBack.f k l tail = some true := by
  refine Ev.rounds (g := fun k => taquinlaw01_WireBack.f k l tail) ?_
  obtain ⟨t, rfl⟩ : ∃ t : Bytes, tail = B t := ⟨tail.data.toList, (b_eta tail).symm⟩
  unfold taquinlaw01_WireBack.f
  refine Ev.bind small_ev ?_
  obtain ⟨b, hf, hg⟩ := few_ev l
  refine Ev.bind hf ?_
  have stop : Ev (fun k => taquinlaw01_WireBack.j0 k l (B t) true true) true := by
    refine Ev.step (f := fun k => some true) (fun k => ?_) (Ev.now _)
    simp only [taquinlaw01_WireBack.j0, if_true]
  cases b with
  | false => exact Ev.congr (fun k => by simp only [Bool.false_eq_true, if_false]) stop
  | true =>
    obtain ⟨hl, hgood⟩ := hg rfl
    refine Ev.congr (fun k => if_pos rfl) ?_
    by_cases ht : ((B t).size : Int) > 400
    · simp only [decide_eq_true ht]
      exact stop
    · simp only [decide_eq_false ht]
      rw [b_size] at ht
      refine Ev.step (f := fun k => taquinlaw01_WireBack.l0 k l (B t) true (B (cat (l.take 0))) ((0 : Nat) : Int)) (fun k => ?_) (l0_ev l t (fun v hv => ⟨h v hv, hgood v hv⟩) hl (by omega) l.length 0 (by omega) (by omega))
      simp only [taquinlaw01_WireBack.j0, Bool.false_eq_true, if_false]
      rfl
end Go.Proofs.YtigdjhnpngjhjaaDoor.WireP3Wr
