/- The law of SeamBack: plain facts. -/
import Derived.Test.YtdgbfaflepiagaaDoorSeamISe
import Derived.Test.YtdgbfaflepiagaaDoorPSex1
import Derived.Test.YtdgbfaflepiagaaDoorPSex2
namespace Go.Proofs.YtdgbfaflepiagaaDoor.Seam
open Go.RowKit Go.Proofs.YtdgbfaflepiagaaDoorW.PrintWords Go.Proofs.YtdgbfaflepiagaaDoorW.PrintMore Go.Proofs.YtdgbfaflepiagaaDoor.PSe Go.Proofs.YtdgbfaflepiagaaDoor.WireMath Go.Proofs.YtdgbfaflepiagaaDoor.WireB
set_option linter.unusedVariables false
set_option linter.unusedSimpArgs false
abbrev Op := S34
def okNo (o : Op) : Prop := -1099511627776 ≤ o.f1.f2 ∧ o.f1.f2 ≤ 1099511627776
instance (o : Op) : Decidable (okNo o) := by unfold okNo; exact inferInstance
def fineB (l : List Op) (n : Int) : Bool := l.all (fun o => decide (okNo o)) && decide ((l.length : Int) ≤ n)
theorem fine_l0 (l : List Op) (n : Int) (hl : l.length ≤ 9223372036854775807) : ∀ (d i : Nat), l.length - i = d → i ≤ l.length → taquinlaw45_fine.l0 (d + 1) l n (i : Int) = some ((l.drop i).all (fun o => decide (okNo o)) && decide ((l.length : Int) ≤ n))
  | 0, i, hd, hi => by
    obtain rfl : i = l.length := by omega
    rw [taquinlaw45_fine.l0, if_neg (by omega)]
    simp
  | d + 1, i, hd, hi => by
    have hlt : i < l.length := by omega
    rw [taquinlaw45_fine.l0, if_pos (by omega), if_pos (by omega)]
    have e : rd_T34 l (i : Int) = l[i] := by unfold rd_T34; simp [List.getD, hlt]
    rw [e, List.drop_eq_getElem_cons hlt, List.all_cons]
    by_cases h1 : l[i].f1.f2 > 1099511627776
    · rw [if_pos h1, decide_eq_false (show ¬ okNo l[i] from fun h => by have := h.2; omega)]; rfl
    · rw [if_neg h1]
      by_cases h2 : l[i].f1.f2 < -1099511627776
      · rw [if_pos h2, decide_eq_false (show ¬ okNo l[i] from fun h => by have := h.1; omega)]; rfl
      · rw [if_neg h2, decide_eq_true (show okNo l[i] from ⟨by omega, by omega⟩), Bool.true_and]
        have hw : wrap64 ((i : Int) + 1) = ((i + 1 : Nat) : Int) := by rw [w64 (by omega) (by omega)]; omega
        rw [hw]
        exact fine_l0 l n hl d (i + 1) (by omega) (by omega)
theorem fine_is (l : List Op) (n : Int) (hl : l.length ≤ 9223372036854775807) : taquinlaw45_fine.f (l.length + 1) l n = some (fineB l n) := by
  have := fine_l0 l n hl l.length 0 (by omega) (by omega)
  simpa [taquinlaw45_fine.f, fineB] using this
theorem fine_true {l : List Op} {n : Int} (h : fineB l n = true) : (∀ o ∈ l, okNo o) ∧ (l.length : Int) ≤ n := by
  simp only [fineB, Bool.and_eq_true, List.all_eq_true, decide_eq_true_eq] at h
  exact h
/-! ### what the calls keep -/
def okN (n : Int) (r : Rob) : Prop := 0 ≤ r.ph ∧ r.ph < 3 ∧ 0 ≤ r.no ∧ r.no ≤ n ∧ (r.rf = true → r.ph = 0)
theorem okN.mono {m n : Int} {r : Rob} (h : okN m r) (hm : m ≤ n) : okN n r := ⟨h.1, h.2.1, h.2.2.1, Int.le_trans h.2.2.2.1 hm, h.2.2.2.2⟩
theorem mem_set {l : List Rob} {k : Nat} {x r : Rob} (h : r ∈ l.set k x) : r ∈ l ∨ r = x := List.mem_or_eq_of_mem_set h
theorem at_mem {l : List Rob} {i : Int} {q : Rob} (h : at_ l i = some q) : q ∈ l := by
  obtain ⟨k, _, hk, rfl⟩ := at_some h
  exact List.getElem_mem hk
theorem offer_ok {l : List Rob} {n : Int} (h : ∀ r ∈ l, okN n r) (hn : n ≤ 4611686018427387904) (i : Int) : ∀ r ∈ (offer l i).1, okN (n + 1) r := by
  unfold offer
  cases ha : at_ l i with
  | none => exact fun r hr => (h r hr).mono (by omega)
  | some q =>
    simp only
    split
    · rename_i h2
      intro r hr
      rcases mem_set hr with h1 | rfl
      · exact (h r h1).mono (by omega)
      · obtain ⟨p1, p2, p3, p4, p5⟩ := h q (at_mem ha)
        refine ⟨by simp, by simp, ?_, ?_, fun hx => absurd (p5 hx) (by omega)⟩
        · show 0 ≤ wrap64 (q.no + 1)
          rw [w64 (by omega) (by omega)]; omega
        · show wrap64 (q.no + 1) ≤ n + 1
          rw [w64 (by omega) (by omega)]; omega
    · exact fun r hr => (h r hr).mono (by omega)
theorem offered_ok {q : Rob} {n : Int} (h : okN n q) {no : Int} (hn : no ≤ n) (take : Bool) : okN n (q.offered no take).1 := by
  obtain ⟨p1, p2, p3, p4, p5⟩ := h
  unfold Rob.offered
  repeat' split
  all_goals first
    | exact ⟨p1, p2, p3, p4, p5⟩
    | exact ⟨by simp, by simp, by simp only; omega, by simp only; omega, by simp⟩
theorem taken_ok {q : Rob} {n : Int} (h : okN n q) (no : Int) : okN n (q.taken no) := by
  obtain ⟨p1, p2, p3, p4, p5⟩ := h
  unfold Rob.taken
  split
  · rename_i h1
    exact ⟨by simp, by simp, by simp only; omega, by simp only; omega, by simp⟩
  · exact ⟨p1, p2, p3, p4, p5⟩
theorem kept_ok {q : Rob} {n : Int} (h : okN n q) (no : Int) : okN n (q.kept no) := by
  obtain ⟨p1, p2, p3, p4, p5⟩ := h
  unfold Rob.kept
  split
  · rename_i h1
    exact ⟨by simp, by simp, p3, p4, fun hx => absurd (p5 hx) (by omega)⟩
  · exact ⟨p1, p2, p3, p4, p5⟩
theorem hear_ok {l : List Rob} {n : Int} (h : ∀ r ∈ l, okN n r) {p : P3} (hn : p.2.2 ≤ n) (take : Bool) : ∀ r ∈ (hear l p take).1, okN n r := by
  unfold hear
  cases ha : at_ l p.2.1 with
  | none => exact h
  | some q =>
    have hq := h q (at_mem ha)
    simp only
    have key : ∀ x, okN n x → ∀ r ∈ l.set p.2.1.toNat x, okN n r := fun x hx r hr => (mem_set hr).elim (h r) (fun e => by rw [e]; exact hx)
    repeat' split
    all_goals first
      | exact h
      | exact key _ (offered_ok hq hn take)
      | exact key _ (taken_ok hq _)
      | exact key _ (kept_ok hq _)
theorem offer_len (l : List Rob) (i : Int) : (offer l i).1.length = l.length := by
  unfold offer
  repeat' split
  all_goals simp
theorem hear_len (l : List Rob) (p : P3) (take : Bool) : (hear l p take).1.length = l.length := by
  unfold hear
  repeat' split
  all_goals simp
theorem doOp_len (l : List Rob) (t : Int) (p : P3) (take : Bool) : (doOp l t p take).length = l.length := by
  unfold doOp
  repeat' split
  all_goals first | rfl | exact offer_len _ _ | exact hear_len _ _ _
theorem doOp_ok {l : List Rob} {n : Int} (h : ∀ r ∈ l, okN n r) (hn : n ≤ 4611686018427387904) (t : Int) {p : P3} (hp : p.2.2 ≤ n) (take : Bool) : ∀ r ∈ doOp l t p take, okN (n + 1) r := by
  unfold doOp
  repeat' split
  · exact offer_ok h hn _
  · exact fun r hr => (h r hr).mono (by omega)
  · exact fun r hr => (hear_ok h hp take r hr).mono (by omega)
  · exact fun r hr => (h r hr).mono (by omega)
def step (l : List Rob) (o : Op) : List Rob := doOp l (low o.f0) (o.f1.f0, o.f1.f1, o.f1.f2) o.f2
def run (l : List Rob) (os : List Op) : List Rob := os.foldl step l
theorem run_snoc (l : List Rob) (os : List Op) (k : Nat) (h : k < os.length) : run l (os.take (k + 1)) = step (run l (os.take k)) os[k] := by
  unfold run
  rw [List.take_succ_eq_append_getElem h, List.foldl_append]; rfl
theorem run_len (l : List Rob) (os : List Op) : (run l os).length = l.length := by
  unfold run
  induction os generalizing l with
  | nil => rfl
  | cons o os ih => rw [List.foldl_cons, ih]; exact doOp_len _ _ _ _
theorem run_ok : ∀ (os : List Op) (l : List Rob) (n : Int), (∀ r ∈ l, okN n r) → 1099511627776 ≤ n → n + os.length ≤ 4611686018427387904 → (∀ o ∈ os, okNo o) → ∀ r ∈ run l os, okN (n + os.length) r
  | [], l, n, h, _, _, _ => by simpa [run] using h
  | o :: os, l, n, h, h1, h2, h3 => by
    simp only [List.length_cons] at h2
    have := run_ok os (step l o) (n + 1) (doOp_ok h (by omega) _ (by have := (h3 o (by simp)).2; show o.f1.f2 ≤ n; omega) _) (by omega) (by omega) (fun x hx => h3 x (by simp [hx]))
    intro r hr
    have := this r hr
    simp only [List.length_cons]
    exact this.mono (by omega)
theorem rob0_ok (x : Bool) (n : Int) (hn : 0 ≤ n) : okN n (rob0 x) := by
  refine ⟨?_, ?_, by simp [rob0], hn, by simp [rob0]⟩ <;> cases x <;> simp [rob0]
theorem okN_rob {n : Int} {r : Rob} (h : okN n r) (hn : n ≤ 2199023255552) : okRob r := ⟨h.1, h.2.1, h.2.2.1, by have := h.2.2.2.1; omega, h.2.2.2.2⟩
theorem okN_int {n : Int} {r : Rob} (h : okN n r) (hn : n ≤ 4611686018427387904) : isInt r.ph ∧ isInt r.no := by
  obtain ⟨p1, p2, p3, p4, _⟩ := h
  exact ⟨⟨by omega, by omega⟩, by omega, by omega⟩
/-! ### passes -/
def encPass (p : P3) : Bytes := encInt p.1 ++ encInt p.2.1 ++ encInt p.2.2
theorem passBytes_is {a b c : Int} (ha : isInt a) (hb : isInt b) (hc : isInt c) : seam_PassBytes.f a b c = some (B (encPass (a, b, c))) := by
  have h1 := encInt_le ha
  have h2 := encInt_le hb
  have h3 := encInt_le hc
  unfold seam_PassBytes.f
  rw [int_eq ha, int_eq hb, int_eq hc]
  simp only [Option.bind_some]
  rw [if_pos (by rw [b_size, b_size]; omega), if_pos (by rw [b_size, b_size, b_size]; omega), b_append, b_append]
  rfl
theorem readPass_is {a b c : Int} (ha : isInt a) (hb : isInt b) (hc : isInt c) : seam_ReadPass.f (B (encPass (a, b, c))) = some (a, b, c, true) := by
  have e : encPass (a, b, c) = encInt a ++ (encInt b ++ (encInt c ++ [])) := by simp [encPass]
  unfold seam_ReadPass.f wire_Open.f
  rw [e]
  simp only [Option.bind_some]
  rw [rd_int, rInt_enc ha]
  simp only [Option.bind_some]
  rw [rd_int, rInt_enc hb]
  simp only [Option.bind_some]
  rw [rd_int, rInt_enc hc]
  simp only [Option.bind_some]
  rw [rd_done]
  rfl
end Go.Proofs.YtdgbfaflepiagaaDoor.Seam
