/- The desk of package seam: what it holds of a robot, and its calls, over numbers and lists; their walks. -/
import Derived.Test.YtdgbfaflepiagaaDoorProg
import Derived.Test.YtdgbfaflepiagaaDoorWWords
import Derived.Test.YtdgbfaflepiagaaDoorWMore
import Derived.Test.YtdgbfaflepiagaaDoorWShare
import Derived.WalkKit
import Derived.WalkSpells
namespace Go.Proofs.YtdgbfaflepiagaaDoor.Seam
open Go.RowKit Go.Proofs.YtdgbfaflepiagaaDoorW.PrintWords Go.Proofs.YtdgbfaflepiagaaDoorW.PrintMore
set_option linter.unusedVariables false
set_option linter.unusedSimpArgs false
/-- What a desk knows of a robot. -/
structure Rob where
  ph : Int
  no : Int
  rf : Bool
deriving DecidableEq
def Rob.cells (r : Rob) : List Value := [.int .i64 r.ph, .int .i64 r.no, .bool r.rf]
def flat (l : List Rob) : List Value := l.flatMap Rob.cells
theorem flat_cons (r : Rob) (l : List Rob) : flat (r :: l) = .int .i64 r.ph :: .int .i64 r.no :: .bool r.rf :: flat l := rfl
theorem flat_append (l m : List Rob) : flat (l ++ m) = flat l ++ flat m := by simp [flat]
theorem flat_length (l : List Rob) : (flat l).length = l.length * 3 := by
  induction l with
  | nil => rfl
  | cons r l ih => rw [flat_cons]; simp only [List.length_cons, ih]; omega
theorem flat_get : ∀ (l : List Rob) (k : Nat) (h : k < l.length), (flat l)[k * 3]? = some (.int .i64 l[k].ph) ∧ (flat l)[k * 3 + 1]? = some (.int .i64 l[k].no) ∧ (flat l)[k * 3 + 2]? = some (.bool l[k].rf)
  | r :: l, 0, _ => ⟨rfl, rfl, rfl⟩
  | r :: l, k + 1, h => by
    have := flat_get l k (by simpa using h)
    rw [flat_cons]
    have e : (k + 1) * 3 = k * 3 + 1 + 1 + 1 := by omega
    rw [e]
    simpa using this
theorem flat_set : ∀ (l : List Rob) (k : Nat) (r : Rob), k < l.length → (((flat l).set (k * 3) (.int .i64 r.ph)).set (k * 3 + 1) (.int .i64 r.no)).set (k * 3 + 2) (.bool r.rf) = flat (l.set k r)
  | _ :: l, 0, r, _ => rfl
  | q :: l, k + 1, r, h => by
    have := flat_set l k r (by simpa using h)
    rw [flat_cons]
    have e : (k + 1) * 3 = k * 3 + 1 + 1 + 1 := by omega
    rw [e]
    simp only [List.set_cons_succ, flat_cons]
    rw [this]
theorem own_put {w : World} {b : Nat} {e : TypeId} {size n m cap r : Nat} {xs : List Value} (h : w.ownsRow b e size (.slice (some ⟨r, 0, none⟩) m cap) n xs) (j : Nat) (u : Value) :
    (w.setCell ⟨r, j, none⟩ u).ownsRow b e size (.slice (some ⟨r, 0, none⟩) m cap) n (xs.set j u) := by
  obtain ⟨h1, h2⟩ := h
  refine ⟨by simpa using h1, .inr ?_⟩
  rcases h2 with ⟨h2, _⟩ | ⟨g, cap', cur, he, hb, hh, hn, hm, hs, ht⟩
  · injection h2 with h2; cases h2
  · injection he with e1 e2 e3
    injection e1 with e1
    injection e1 with e1
    subst e1 e2 e3
    exact ⟨_, _, cur.setIfInBounds j u, rfl, hb, blk_set hh j u, hn, hm, by simpa using hs, by rw [Array.toList_setIfInBounds, List.take_set, ht]⟩
theorem own_cell {w : World} {b : Nat} {e : TypeId} {size n m cap r : Nat} {xs : List Value} (h : w.ownsRow b e size (.slice (some ⟨r, 0, none⟩) m cap) n xs) {j : Nat} {u : Value} (hu : xs[j]? = some u) : w.cell? ⟨r, j, none⟩ = some u := by
  have := h.cells (g := r) rfl j u hu
  rwa [add_plain] at this
theorem own_free {w : World} {b : Nat} {e : TypeId} {size n m cap r : Nat} {xs : List Value} (h : w.ownsRow b e size (.slice (some ⟨r, 0, none⟩) m cap) n xs) (j : Nat) : w.frozen? ⟨r, j, none⟩ = false := by
  rcases h.2 with ⟨h2, _⟩ | ⟨g, cap', cur, he, hb, hh, _⟩
  · injection h2 with h2; cases h2
  · injection he with e1 e2 e3
    injection e1 with e1
    injection e1 with e1
    subst e1
    exact blk_frozen hh j
theorem own_form {w : World} {b : Nat} {e : TypeId} {size n : Nat} {v : Value} {xs : List Value} (h : w.ownsRow b e size v n xs) (hn : 0 < n) : ∃ r cap, v = .slice (some ⟨r, 0, none⟩) n cap ∧ n ≤ cap := by
  rcases h.2 with ⟨_, h2⟩ | ⟨g, cap', cur, he, hb, hh, hn, _⟩
  · omega
  · exact ⟨g, cap', he, hn⟩
/-- Three cells of a row written. -/
def put3 (w : World) (r o : Nat) (q : Rob) : World := ((w.setCell ⟨r, o, none⟩ (.int .i64 q.ph)).setCell ⟨r, o + 1, none⟩ (.int .i64 q.no)).setCell ⟨r, o + 2, none⟩ (.bool q.rf)
theorem own_put3 {w : World} {b : Nat} {e : TypeId} {m cap r k : Nat} {l : List Rob} (h : w.ownsRow b e 3 (.slice (some ⟨r, 0, none⟩) m cap) l.length (flat l)) (hk : k < l.length) (q : Rob) : (put3 w r (k * 3) q).ownsRow b e 3 (.slice (some ⟨r, 0, none⟩) m cap) (l.set k q).length (flat (l.set k q)) := by
  have := own_put (own_put (own_put h (k * 3) (.int .i64 q.ph)) (k * 3 + 1) (.int .i64 q.no)) (k * 3 + 2) (.bool q.rf)
  rw [flat_set l k q hk] at this
  rw [List.length_set]
  exact this
theorem grown_set (w : World) (r j : Nat) (u : Value) : w.grownBy (w.setCell ⟨r, j, none⟩ u) (some r) :=
  ⟨rfl, rfl, rfl, by simp [World.setCell], fun k hk hne => Below.heap_setCell w ⟨r, j, none⟩ u k (fun e => hne (by rw [e]))⟩
theorem grown_trans {w w1 w2 : World} {row : Option Nat} (h : w.grownBy w1 row) (k : w1.grownBy w2 row) : w.grownBy w2 row :=
  ⟨k.os.trans h.os, k.tape.trans h.tape, k.output.trans h.output, Nat.le_trans h.size k.size, fun i hi hne => (k.block i (Nat.lt_of_lt_of_le hi h.size) hne).trans (h.block i hi hne)⟩
theorem grown_put3 (w : World) (r o : Nat) (q : Rob) : w.grownBy (put3 w r o q) (some r) := grown_trans (grown_trans (grown_set _ _ _ _) (grown_set _ _ _ _)) (grown_set _ _ _ _)
/-! ### a robot's own calls -/
def Rob.offered (r : Rob) (no : Int) (take : Bool) : Rob × Int × Int :=
  if no < r.no then (r, -1, 0)
  else if r.no < no then (if r.ph = 1 then (r, -1, 7) else if take then (⟨1, no, false⟩, 1, 0) else (⟨0, no, true⟩, 2, 0))
  else if r.ph = 1 then (r, 1, 0) else if r.rf then (r, 2, 0) else (r, -1, 0)
def Rob.taken (r : Rob) (no : Int) : Rob := if r.ph = 2 ∧ r.no = no then ⟨0, no, false⟩ else r
def Rob.kept (r : Rob) (no : Int) : Rob := if r.ph = 2 ∧ r.no = no then { r with ph := 1 } else r
/-- Nothing, or the three cells. -/
def Puts (w w' : World) (r o : Nat) (q q' : Rob) : Prop := (q' = q ∧ w' = w) ∨ w' = put3 w r o q'
set_option maxHeartbeats 4000000 in
set_option maxRecDepth 100000 in
theorem offered (r o : Nat) (q : Rob) (no : Int) (take : Bool) (w : World) (c0 : w.cell? ⟨r, o, none⟩ = some (.int .i64 q.ph)) (c1 : w.cell? ⟨r, o + 1, none⟩ = some (.int .i64 q.no)) (c2 : w.cell? ⟨r, o + 2, none⟩ = some (.bool q.rf)) (hf : ∀ j, w.frozen? ⟨r, j, none⟩ = false) :
    Calls Tryd.prog 61 #[.pointer (some ⟨r, o, none⟩), .int .i64 no, .bool take] w fun e w' => e = .returned (.tuple #[.int .i64 (q.offered no take).2.1, .int .i64 (q.offered no take).2.2]) ∧ Puts w w' r o q (q.offered no take).1 := by
  obtain ⟨ph, n, rf⟩ := q
  simp only at c0 c1 c2
  have f0 := hf o
  have f1 := hf (o + 1)
  have f2 := hf (o + 2)
  clear hf
  by_cases h1 : no < n
  · have HF : Aside0 ((Rob.offered ⟨ph, n, rf⟩ no take) = (⟨ph, n, rf⟩, -1, 0)) := ⟨by unfold Rob.offered; simp only; rw [if_pos h1]⟩
    have b1 : decide (no < n) = true := decide_eq_true h1
    clear h1
    go_enter Tryd.func61, Tryd.ntmps61
    go_wp2
    go_ret2
    exact ⟨by rw [HF.out]; rfl, .inl ⟨by rw [HF.out], rfl⟩⟩
  have b1 : decide (no < n) = false := decide_eq_false h1
  by_cases h2 : n < no
  · have b2 : decide (n < no) = true := decide_eq_true h2
    by_cases h3 : ph = 1
    · have HF : Aside0 ((Rob.offered ⟨ph, n, rf⟩ no take) = (⟨ph, n, rf⟩, -1, 7)) := ⟨by unfold Rob.offered; simp only; rw [if_neg h1, if_pos h2, if_pos h3]⟩
      have b3 : (ph == 1) = true := beq_iff_eq.2 h3
      clear h1 h2 h3
      go_enter Tryd.func61, Tryd.ntmps61
      go_wp2
      go_ret2
      exact ⟨by rw [HF.out]; rfl, .inl ⟨by rw [HF.out], rfl⟩⟩
    have b3 : (ph == 1) = false := beq_eq_false_iff_ne.2 h3
    cases take with
    | true =>
      have HF : Aside0 ((Rob.offered ⟨ph, n, rf⟩ no true) = (⟨1, no, false⟩, 1, 0)) := ⟨by unfold Rob.offered; simp only; rw [if_neg h1, if_pos h2, if_neg h3, if_pos trivial]⟩
      clear h1 h2 h3
      go_enter Tryd.func61, Tryd.ntmps61
      go_wp2
      go_ret2
      exact ⟨by rw [HF.out]; rfl, .inr (by rw [HF.out]; rfl)⟩
    | false =>
      have HF : Aside0 ((Rob.offered ⟨ph, n, rf⟩ no false) = (⟨0, no, true⟩, 2, 0)) := ⟨by unfold Rob.offered; simp only; rw [if_neg h1, if_pos h2, if_neg h3, if_neg (by simp)]⟩
      clear h1 h2 h3
      go_enter Tryd.func61, Tryd.ntmps61
      go_wp2
      go_ret2
      exact ⟨by rw [HF.out]; rfl, .inr (by rw [HF.out]; rfl)⟩
  have b2 : decide (n < no) = false := decide_eq_false h2
  by_cases h3 : ph = 1
  · have HF : Aside0 ((Rob.offered ⟨ph, n, rf⟩ no take) = (⟨ph, n, rf⟩, 1, 0)) := ⟨by unfold Rob.offered; simp only; rw [if_neg h1, if_neg h2, if_pos h3]⟩
    have b3 : (ph == 1) = true := beq_iff_eq.2 h3
    clear h1 h2 h3
    go_enter Tryd.func61, Tryd.ntmps61
    go_wp2
    go_ret2
    exact ⟨by rw [HF.out]; rfl, .inl ⟨by rw [HF.out], rfl⟩⟩
  have b3 : (ph == 1) = false := beq_eq_false_iff_ne.2 h3
  cases rf with
  | true =>
    have HF : Aside0 ((Rob.offered ⟨ph, n, true⟩ no take) = (⟨ph, n, true⟩, 2, 0)) := ⟨by unfold Rob.offered; simp only; rw [if_neg h1, if_neg h2, if_neg h3, if_pos trivial]⟩
    clear h1 h2 h3
    go_enter Tryd.func61, Tryd.ntmps61
    go_wp2
    go_ret2
    exact ⟨by rw [HF.out]; rfl, .inl ⟨by rw [HF.out], rfl⟩⟩
  | false =>
    have HF : Aside0 ((Rob.offered ⟨ph, n, false⟩ no take) = (⟨ph, n, false⟩, -1, 0)) := ⟨by unfold Rob.offered; simp only; rw [if_neg h1, if_neg h2, if_neg h3, if_neg (by simp)]⟩
    clear h1 h2 h3
    go_enter Tryd.func61, Tryd.ntmps61
    go_wp2
    go_ret2
    exact ⟨by rw [HF.out]; rfl, .inl ⟨by rw [HF.out], rfl⟩⟩
set_option maxHeartbeats 4000000 in
set_option maxRecDepth 100000 in
theorem taken (r o : Nat) (q : Rob) (no : Int) (take : Bool) (w : World) (c0 : w.cell? ⟨r, o, none⟩ = some (.int .i64 q.ph)) (c1 : w.cell? ⟨r, o + 1, none⟩ = some (.int .i64 q.no)) (c2 : w.cell? ⟨r, o + 2, none⟩ = some (.bool q.rf)) (hf : ∀ j, w.frozen? ⟨r, j, none⟩ = false) :
    Calls Tryd.prog 62 #[.pointer (some ⟨r, o, none⟩), .int .i64 no, .bool take] w fun e w' => e = .returned (.tuple #[.int .i64 (-1), .int .i64 0]) ∧ Puts w w' r o q (q.taken no) := by
  obtain ⟨ph, n, rf⟩ := q
  simp only at c0 c1 c2
  have f0 := hf o
  have f1 := hf (o + 1)
  have f2 := hf (o + 2)
  clear hf
  by_cases h : ph = 2 ∧ n = no
  · have HF : Aside0 ((Rob.taken ⟨ph, n, rf⟩ no) = ⟨0, no, false⟩) := ⟨by unfold Rob.taken; rw [if_pos h]⟩
    obtain ⟨h1, h2⟩ := h
    have b1 : (ph == 2) = true := beq_iff_eq.2 h1
    have b2 : (n == no) = true := beq_iff_eq.2 h2
    clear h1 h2
    go_enter Tryd.func62, Tryd.ntmps62
    go_wp2
    go_ret2
    exact ⟨rfl, .inr (by rw [HF.out]; rfl)⟩
  · have HF : Aside0 ((Rob.taken ⟨ph, n, rf⟩ no) = ⟨ph, n, rf⟩) := ⟨by unfold Rob.taken; rw [if_neg h]⟩
    by_cases h1 : ph = 2
    · have b1 : (ph == 2) = true := beq_iff_eq.2 h1
      have b2 : (n == no) = false := beq_eq_false_iff_ne.2 (fun e => h ⟨h1, e⟩)
      clear h1 h
      go_enter Tryd.func62, Tryd.ntmps62
      go_wp2
      go_ret2
      exact ⟨rfl, .inl ⟨by rw [HF.out], rfl⟩⟩
    · have b1 : (ph == 2) = false := beq_eq_false_iff_ne.2 h1
      clear h1 h
      go_enter Tryd.func62, Tryd.ntmps62
      go_wp2
      go_ret2
      exact ⟨rfl, .inl ⟨by rw [HF.out], rfl⟩⟩
set_option maxHeartbeats 4000000 in
set_option maxRecDepth 100000 in
theorem kept (r o : Nat) (q : Rob) (no : Int) (take : Bool) (w : World) (c0 : w.cell? ⟨r, o, none⟩ = some (.int .i64 q.ph)) (c1 : w.cell? ⟨r, o + 1, none⟩ = some (.int .i64 q.no)) (c2 : w.cell? ⟨r, o + 2, none⟩ = some (.bool q.rf)) (hf : ∀ j, w.frozen? ⟨r, j, none⟩ = false) :
    Calls Tryd.prog 63 #[.pointer (some ⟨r, o, none⟩), .int .i64 no, .bool take] w fun e w' => e = .returned (.tuple #[.int .i64 (-1), .int .i64 0]) ∧ ((q.kept no = q ∧ w' = w) ∨ (q.kept no = { q with ph := 1 } ∧ w' = w.setCell ⟨r, o, none⟩ (.int .i64 1))) := by
  obtain ⟨ph, n, rf⟩ := q
  simp only at c0 c1 c2
  have f0 := hf o
  have f1 := hf (o + 1)
  have f2 := hf (o + 2)
  clear hf
  by_cases h : ph = 2 ∧ n = no
  · have HF : Aside0 ((Rob.kept ⟨ph, n, rf⟩ no) = ⟨1, n, rf⟩) := ⟨by unfold Rob.kept; rw [if_pos h]⟩
    obtain ⟨h1, h2⟩ := h
    have b1 : (ph == 2) = true := beq_iff_eq.2 h1
    have b2 : (n == no) = true := beq_iff_eq.2 h2
    clear h1 h2
    go_enter Tryd.func63, Tryd.ntmps63
    go_wp2
    go_ret2
    exact ⟨rfl, .inr ⟨by rw [HF.out], rfl⟩⟩
  · have HF : Aside0 ((Rob.kept ⟨ph, n, rf⟩ no) = ⟨ph, n, rf⟩) := ⟨by unfold Rob.kept; rw [if_neg h]⟩
    by_cases h1 : ph = 2
    · have b1 : (ph == 2) = true := beq_iff_eq.2 h1
      have b2 : (n == no) = false := beq_eq_false_iff_ne.2 (fun e => h ⟨h1, e⟩)
      clear h1 h
      go_enter Tryd.func63, Tryd.ntmps63
      go_wp2
      go_ret2
      exact ⟨rfl, .inl ⟨by rw [HF.out], rfl⟩⟩
    · have b1 : (ph == 2) = false := beq_eq_false_iff_ne.2 h1
      clear h1 h
      go_enter Tryd.func63, Tryd.ntmps63
      go_wp2
      go_ret2
      exact ⟨rfl, .inl ⟨by rw [HF.out], rfl⟩⟩
end Go.Proofs.YtdgbfaflepiagaaDoor.Seam
