/- The desk of package seam: the walks of its calls. -/
import Derived.Test.YtdgbfaflepiagaaDoorSeamA
namespace Go.Proofs.YtdgbfaflepiagaaDoor.Seam
open Go.RowKit Go.Proofs.YtdgbfaflepiagaaDoorW.PrintWords Go.Proofs.YtdgbfaflepiagaaDoorW.PrintMore
set_option linter.unusedVariables false
set_option linter.unusedSimpArgs false
/-- A desk in memory. -/
structure Dk (w : World) (b g : Nat) (me : Int) (v : Value) (l : List Rob) : Prop where
  blk : w.heap[g]? = some (.cells #[.int .i64 me, v] 81 (0, 0))
  own : w.ownsRow b 83 3 v l.length (flat l)
  base : b ≤ g
section
variable {w w1 : World} {b g : Nat} {me : Int} {v : Value} {l : List Rob}
theorem Dk.below (h : Dk w b g me v l) (hb : Below w.heap.size w w1) : Dk w1 b g me v l := ⟨blk_below h.blk hb, pw_own_below h.own hb, h.base⟩
theorem Dk.alloc (h : Dk w b g me v l) (o : Obj) : Dk (w.alloc o) b g me v l := h.below (below_alloc (Below.refl _ _) o)
theorem Dk.ne (h : Dk w b g me v l) : some g ≠ v.ownBlock := own_ne h.own h.blk (by decide)
theorem Dk.grown (h : Dk w b g me v l) {row : Option Nat} (hg : w.grownBy w1 row) (h1 : some g ≠ row) (h2 : v.ownBlock = none ∨ v.ownBlock ≠ row) : Dk w1 b g me v l := ⟨blk_grown h.blk hg h1, own_other h.own hg h2, h.base⟩
theorem Dk.slice (h : Dk w b g me v l) : ∃ A c, v = .slice A l.length c := own_slice h.own
theorem Dk.c0 (h : Dk w b g me v l) : w.cell? ⟨g, 0, none⟩ = some (.int .i64 me) := (blk_cell h.blk 0).trans rfl
theorem Dk.c1 (h : Dk w b g me v l) : w.cell? ⟨g, 1, none⟩ = some v := (blk_cell h.blk 1).trans rfl
end
set_option maxHeartbeats 4000000 in
set_option maxRecDepth 100000 in
theorem find_no (b g : Nat) (me : Int) (v : Value) (l : List Rob) (i : Int) (w : World) (hD : Dk w b g me v l) (hl : l.length ≤ 1000000) (hi : i < 0 ∨ (l.length : Int) ≤ i) :
    Calls Tryd.prog 59 #[.pointer (some ⟨g, 0, none⟩), .int .i64 i] w fun e w' => e = .returned (.pointer none) ∧ w = w' := by
  obtain ⟨A, c, rfl⟩ := hD.slice
  have k1 := hD.c1
  clear hD
  by_cases h1 : i < 0
  · have b1 : decide (i < 0) = true := decide_eq_true h1
    clear h1 hi
    go_enter Tryd.func59, Tryd.ntmps59
    go_wp2
    go_ret
    exact ⟨rfl, rfl⟩
  · have b1 : decide (i < 0) = false := decide_eq_false h1
    have b2 : decide ((l.length : Int) ≤ i) = true := decide_eq_true (by omega)
    clear h1 hi
    go_enter Tryd.func59, Tryd.ntmps59
    go_wp2
    go_ret
    exact ⟨rfl, rfl⟩
set_option maxHeartbeats 4000000 in
set_option maxRecDepth 100000 in
theorem find_yes (b g r cap : Nat) (me : Int) (l : List Rob) (k : Nat) (w : World) (hD : Dk w b g me (.slice (some ⟨r, 0, none⟩) l.length cap) l) (hl : l.length ≤ 1000000) (hk : k < l.length) :
    Calls Tryd.prog 59 #[.pointer (some ⟨g, 0, none⟩), .int .i64 k] w fun e w' => e = .returned (.pointer (some ⟨r, k * 3, none⟩)) ∧ w = w' := by
  have k1 := hD.c1
  clear hD
  have b0 : (0 : Int) ≤ (k : Int) := Int.natCast_nonneg _
  have b1 : decide ((k : Int) < 0) = false := decide_eq_false (by omega)
  have b2 : decide ((l.length : Int) ≤ (k : Int)) = false := decide_eq_false (by omega)
  have b3 : (k : Int) < (l.length : Int) := by omega
  go_enter Tryd.func59, Tryd.ntmps59
  go_wp2
  go_ret
  exact ⟨rfl, rfl⟩
/-- The robot, if there is one. -/
def at_ (l : List Rob) (i : Int) : Option Rob := if 0 ≤ i then l[i.toNat]? else none
theorem at_none {l : List Rob} {i : Int} (h : at_ l i = none) : i < 0 ∨ (l.length : Int) ≤ i := by
  unfold at_ at h
  split at h
  · have := List.getElem?_eq_none_iff.1 h; omega
  · omega
theorem at_some {l : List Rob} {i : Int} {q : Rob} (h : at_ l i = some q) : ∃ k : Nat, i = k ∧ ∃ hk : k < l.length, l[k] = q := by
  unfold at_ at h
  split at h
  · obtain ⟨hk, e⟩ := List.getElem?_eq_some_iff.1 h
    exact ⟨i.toNat, by omega, hk, e⟩
  · cases h
section
variable {w w1 : World} {b g : Nat} {me : Int} {v : Value} {l : List Rob}
theorem Dk.form (h : Dk w b g me v l) {k : Nat} (hk : k < l.length) : ∃ r cap, v = .slice (some ⟨r, 0, none⟩) l.length cap := by
  obtain ⟨r, cap, e, _⟩ := own_form h.own (by omega)
  exact ⟨r, cap, e⟩
theorem Dk.cells {r cap : Nat} (h : Dk w b g me (.slice (some ⟨r, 0, none⟩) l.length cap) l) {k : Nat} (hk : k < l.length) : w.cell? ⟨r, k * 3, none⟩ = some (.int .i64 l[k].ph) ∧ w.cell? ⟨r, k * 3 + 1, none⟩ = some (.int .i64 l[k].no) ∧ w.cell? ⟨r, k * 3 + 2, none⟩ = some (.bool l[k].rf) :=
  ⟨own_cell h.own (flat_get l k hk).1, own_cell h.own (flat_get l k hk).2.1, own_cell h.own (flat_get l k hk).2.2⟩
theorem Dk.free {r cap : Nat} (h : Dk w b g me (.slice (some ⟨r, 0, none⟩) l.length cap) l) (j : Nat) : w.frozen? ⟨r, j, none⟩ = false := own_free h.own j
theorem Dk.lt {r cap : Nat} (h : Dk w b g me (.slice (some ⟨r, 0, none⟩) l.length cap) l) : r < w.heap.size := own_lt h.own r rfl
end
set_option maxHeartbeats 4000000 in
set_option maxRecDepth 100000 in
theorem phase (b g : Nat) (me : Int) (v : Value) (l : List Rob) (i : Int) (w : World) (hD : Dk w b g me v l) (hl : l.length ≤ 1000000) :
    Calls Tryd.prog 30 #[.pointer (some ⟨g, 0, none⟩), .int .i64 i] w fun e w' => e = .returned (.int .i64 (match at_ l i with | some q => q.ph | none => 0)) ∧ w = w' := by
  cases ha : at_ l i with
  | none =>
    have HA := Aside0.mk (at_none ha)
    clear ha
    have HD := Aside0.mk hD
    clear hD
    go_enter Tryd.func30, Tryd.ntmps30
    go_wp2_with (go_at_call 59; (with_reducible refine (find_no b g me v l i _ HD.out hl HA.out).mono ?_); rintro e w1 ⟨rfl, rfl⟩)
    go_ret
    exact ⟨rfl, rfl⟩
  | some q =>
    obtain ⟨k, rfl, hk, rfl⟩ := at_some ha
    clear ha
    obtain ⟨r, cap, rfl⟩ := hD.form hk
    have hc := (hD.cells hk).1
    have HD := Aside0.mk hD
    clear hD
    go_enter Tryd.func30, Tryd.ntmps30
    go_wp2_with (go_at_call 59; (with_reducible refine (find_yes b g r cap me l k _ HD.out hl hk).mono ?_); rintro e w1 ⟨rfl, rfl⟩)
    go_ret
    exact ⟨rfl, rfl⟩
set_option maxHeartbeats 4000000 in
set_option maxRecDepth 100000 in
theorem no (b g : Nat) (me : Int) (v : Value) (l : List Rob) (i : Int) (w : World) (hD : Dk w b g me v l) (hl : l.length ≤ 1000000) :
    Calls Tryd.prog 31 #[.pointer (some ⟨g, 0, none⟩), .int .i64 i] w fun e w' => e = .returned (.int .i64 (match at_ l i with | some q => q.no | none => 0)) ∧ w = w' := by
  cases ha : at_ l i with
  | none =>
    have HA := Aside0.mk (at_none ha)
    clear ha
    have HD := Aside0.mk hD
    clear hD
    go_enter Tryd.func31, Tryd.ntmps31
    go_wp2_with (go_at_call 59; (with_reducible refine (find_no b g me v l i _ HD.out hl HA.out).mono ?_); rintro e w1 ⟨rfl, rfl⟩)
    go_ret
    exact ⟨rfl, rfl⟩
  | some q =>
    obtain ⟨k, rfl, hk, rfl⟩ := at_some ha
    clear ha
    obtain ⟨r, cap, rfl⟩ := hD.form hk
    have hc := (hD.cells hk).2.1
    have HD := Aside0.mk hD
    clear hD
    go_enter Tryd.func31, Tryd.ntmps31
    go_wp2_with (go_at_call 59; (with_reducible refine (find_yes b g r cap me l k _ HD.out hl hk).mono ?_); rintro e w1 ⟨rfl, rfl⟩)
    go_ret
    exact ⟨rfl, rfl⟩
set_option maxHeartbeats 4000000 in
set_option maxRecDepth 100000 in
theorem me_ (b g : Nat) (me : Int) (v : Value) (l : List Rob) (w : World) (hD : Dk w b g me v l) :
    Calls Tryd.prog 28 #[.pointer (some ⟨g, 0, none⟩)] w fun e w' => e = .returned (.int .i64 me) ∧ w = w' := by
  have k0 := hD.c0
  clear hD
  go_enter Tryd.func28, Tryd.ntmps28
  go_wp2
  go_ret
  exact ⟨rfl, rfl⟩
set_option maxHeartbeats 4000000 in
set_option maxRecDepth 100000 in
theorem robots (b g : Nat) (me : Int) (v : Value) (l : List Rob) (w : World) (hD : Dk w b g me v l) :
    Calls Tryd.prog 29 #[.pointer (some ⟨g, 0, none⟩)] w fun e w' => e = .returned (.int .i64 l.length) ∧ w = w' := by
  obtain ⟨A, c, rfl⟩ := hD.slice
  have k1 := hD.c1
  clear hD
  go_enter Tryd.func29, Tryd.ntmps29
  go_wp2
  go_ret
  exact ⟨rfl, rfl⟩
/-! ### Again, Offer -/
abbrev P3 := Int × Int × Int
def again (l : List Rob) (i : Int) : P3 × Int := match at_ l i with
  | none => ((0, 0, 0), 4)
  | some q => if q.ph = 2 then ((0, i, q.no), 0) else ((0, 0, 0), 7)
def offer (l : List Rob) (i : Int) : List Rob × P3 × Int := match at_ l i with
  | none => (l, (0, 0, 0), 4)
  | some q => if q.ph = 1 then (l.set i.toNat ⟨2, wrap64 (q.no + 1), q.rf⟩, (0, i, wrap64 (q.no + 1)), 0) else (l, (0, 0, 0), 7)
def pass (p : P3) : Value := .agg #[.int .i64 p.1, .int .i64 p.2.1, .int .i64 p.2.2]
theorem flat_set1 : ∀ (l : List Rob) (k : Nat) (a : Int) (h : k < l.length), (flat l).set (k * 3) (.int .i64 a) = flat (l.set k { l[k] with ph := a })
  | _ :: l, 0, r, _ => rfl
  | q :: l, k + 1, r, h => by
    have := flat_set1 l k r (by simpa using h)
    rw [flat_cons]
    have e : (k + 1) * 3 = k * 3 + 1 + 1 + 1 := by omega
    rw [e]
    simp only [List.set_cons_succ, flat_cons, List.getElem_cons_succ]
    rw [this]
theorem flat_set2 : ∀ (l : List Rob) (k : Nat) (a c : Int) (h : k < l.length), ((flat l).set (k * 3) (.int .i64 a)).set (k * 3 + 1) (.int .i64 c) = flat (l.set k ⟨a, c, l[k].rf⟩)
  | _ :: l, 0, _, _, _ => rfl
  | q :: l, k + 1, a, c, h => by
    have := flat_set2 l k a c (by simpa using h)
    rw [flat_cons]
    have e : (k + 1) * 3 = k * 3 + 1 + 1 + 1 := by omega
    rw [e]
    simp only [List.set_cons_succ, flat_cons, List.getElem_cons_succ]
    rw [this]
theorem size_set (w : World) (a : Addr) (u : Value) : (w.setCell a u).heap.size = w.heap.size := by simp [World.setCell]
theorem grown_new {w w1 : World} {row : Option Nat} (h : w.grownBy w1 row) {n : Nat} (hn : w.heap.size ≤ n) (j : Nat) (u : Value) : w.grownBy (w1.setCell ⟨n, j, none⟩ u) row :=
  ⟨h.os, h.tape, h.output, by simpa [World.setCell] using h.size, fun k hk hne => (Below.heap_setCell w1 ⟨n, j, none⟩ u k (show k ≠ n by omega)).trans (h.block k hk hne)⟩
theorem grown_below {w w1 w2 : World} {row : Option Nat} (h : w.grownBy w1 row) (hb : Below w1.heap.size w1 w2) : w.grownBy w2 row :=
  ⟨hb.os.trans h.os, hb.tape.trans h.tape, hb.output.trans h.output, Nat.le_trans h.size hb.size, fun k hk hne => (hb.block k (Nat.lt_of_lt_of_le hk h.size)).trans (h.block k hk hne)⟩
theorem grown_of_b {w w1 : World} (hb : Below w.heap.size w w1) (row : Option Nat) : w.grownBy w1 row := grown_of_below hb row
section
variable {w w1 : World} {b g : Nat} {me : Int} {v : Value} {l : List Rob}
theorem Dk.far (h : Dk w b g me v l) {n : Nat} {t : TypeId} {cs : Array Value} (hn : w.heap[n]? = some (.cells cs t (0, 0))) (h1 : t ≠ 81) (h2 : t ≠ 83) (j : Nat) (u : Value) : Dk (w.setCell ⟨n, j, none⟩ u) b g me v l :=
  ⟨blk_far h.blk (p := ⟨n, j, none⟩) (blk_ne h.blk hn h1.symm) u, own_setCell h.own (p := ⟨n, j, none⟩) (own_ne h.own hn h2.symm) u, h.base⟩
theorem Dk.put1 {r cap : Nat} (h : Dk w b g me (.slice (some ⟨r, 0, none⟩) l.length cap) l) {k : Nat} (hk : k < l.length) (a : Int) : Dk (w.setCell ⟨r, k * 3, none⟩ (.int .i64 a)) b g me (.slice (some ⟨r, 0, none⟩) l.length cap) (l.set k { l[k] with ph := a }) := by
  refine ⟨blk_far h.blk (p := ⟨r, k * 3, none⟩) (fun e => h.ne (by rw [e]; rfl)) _, ?_, h.base⟩
  have := own_put h.own (k * 3) (.int .i64 a)
  rw [flat_set1 l k a hk] at this
  rw [List.length_set]; exact this
theorem Dk.put2 {r cap : Nat} (h : Dk w b g me (.slice (some ⟨r, 0, none⟩) l.length cap) l) {k : Nat} (hk : k < l.length) (a c : Int) : Dk ((w.setCell ⟨r, k * 3, none⟩ (.int .i64 a)).setCell ⟨r, k * 3 + 1, none⟩ (.int .i64 c)) b g me (.slice (some ⟨r, 0, none⟩) l.length cap) (l.set k ⟨a, c, l[k].rf⟩) := by
  have hne : g ≠ r := fun e => h.ne (by rw [e]; rfl)
  refine ⟨blk_far (blk_far h.blk (p := ⟨r, k * 3, none⟩) hne _) (p := ⟨r, k * 3 + 1, none⟩) hne _, ?_, h.base⟩
  have := own_put (own_put h.own (k * 3) (.int .i64 a)) (k * 3 + 1) (.int .i64 c)
  rw [flat_set2 l k a c hk] at this
  rw [List.length_set]; exact this
theorem Dk.put3 {r cap : Nat} (h : Dk w b g me (.slice (some ⟨r, 0, none⟩) l.length cap) l) {k : Nat} (hk : k < l.length) (q : Rob) : Dk (Seam.put3 w r (k * 3) q) b g me (.slice (some ⟨r, 0, none⟩) l.length cap) (l.set k q) := by
  have hne : g ≠ r := fun e => h.ne (by rw [e]; rfl)
  exact ⟨blk_far (blk_far (blk_far h.blk (p := ⟨r, k * 3, none⟩) hne _) (p := ⟨r, k * 3 + 1, none⟩) hne _) (p := ⟨r, k * 3 + 2, none⟩) hne _, own_put3 h.own hk q, h.base⟩
end
set_option maxHeartbeats 4000000 in
set_option maxRecDepth 100000 in
theorem again_calls (b g : Nat) (me : Int) (v : Value) (l : List Rob) (i : Int) (w : World) (hD : Dk w b g me v l) (hl : l.length ≤ 1000000) :
    Calls Tryd.prog 23 #[.pointer (some ⟨g, 0, none⟩), .int .i64 i] w fun e w' => e = .returned (.tuple #[pass (again l i).1, .int .i64 (again l i).2]) ∧ Below w.heap.size w w' := by
  have hu := Tryd.underlying29
  cases ha : at_ l i with
  | none =>
    have HD := Aside0.mk hD
    have HF : Aside0 (again l i = ((0, 0, 0), 4)) := ⟨by unfold again; rw [ha]⟩
    have HA := Aside0.mk (at_none ha)
    clear ha hD
    go_enter Tryd.func23, Tryd.ntmps23
    go_wp2_with (go_at_call 59; (with_reducible refine (find_no b g me v l i _ (HD.out.alloc _) hl HA.out).mono ?_); rintro e w1 ⟨rfl, rfl⟩)
    refine bodyPost_ret (results_ct rfl _ _ w.heap.size 29 #[.int .i64 0, .int .i64 0, .int .i64 0] (0, 0) _ rfl (blk_new _ _) hu rfl (by kernel_rfl)) rfl ?_
    exact ⟨by rw [HF.out]; rfl, below_alloc (Below.refl _ _) _⟩
  | some q =>
    obtain ⟨k, rfl, hk, hq⟩ := at_some ha
    obtain ⟨r, cap, rfl⟩ := hD.form hk
    have hc := (hD.alloc (.cells #[.int .i64 0, .int .i64 0, .int .i64 0] 29 (0, 0))).cells hk
    rw [hq] at hc
    obtain ⟨c0, c1, _⟩ := hc
    have HD := Aside0.mk hD
    clear hD
    by_cases h2 : q.ph = 2
    · have HF : Aside0 (again l (k : Int) = ((0, (k : Int), q.no), 0)) := ⟨by unfold again; rw [ha]; simp only; rw [if_pos h2]⟩
      have b1 : (q.ph != 2) = false := by rw [h2]; rfl
      clear h2 hq ha
      go_enter Tryd.func23, Tryd.ntmps23
      go_wp2_with (go_at_call 59; (with_reducible refine (find_yes b g r cap me l k _ (HD.out.alloc _) hl hk).mono ?_); rintro e w1 ⟨rfl, rfl⟩)
      refine bodyPost_ret (results_ct rfl _ _ w.heap.size 29 #[.int .i64 0, .int .i64 (k : Int), .int .i64 q.no] (0, 0) _ rfl (blk_new _ _) hu rfl (by kernel_rfl)) rfl ?_
      exact ⟨by rw [HF.out]; rfl, below_alloc (Below.refl _ _) _⟩
    · have HF : Aside0 (again l (k : Int) = ((0, 0, 0), 7)) := ⟨by unfold again; rw [ha]; simp only; rw [if_neg h2]⟩
      have b1 : (q.ph != 2) = true := bne_iff_ne.2 h2
      clear h2 hq ha
      go_enter Tryd.func23, Tryd.ntmps23
      go_wp2_with (go_at_call 59; (with_reducible refine (find_yes b g r cap me l k _ (HD.out.alloc _) hl hk).mono ?_); rintro e w1 ⟨rfl, rfl⟩)
      refine bodyPost_ret (results_ct rfl _ _ w.heap.size 29 #[.int .i64 0, .int .i64 0, .int .i64 0] (0, 0) _ rfl (blk_new _ _) hu rfl (by kernel_rfl)) rfl ?_
      exact ⟨by rw [HF.out]; rfl, below_alloc (Below.refl _ _) _⟩
set_option maxHeartbeats 4000000 in
set_option maxRecDepth 100000 in
theorem offer_calls (b g : Nat) (me : Int) (v : Value) (l : List Rob) (i : Int) (w : World) (hD : Dk w b g me v l) (hl : l.length ≤ 1000000) :
    Calls Tryd.prog 21 #[.pointer (some ⟨g, 0, none⟩), .int .i64 i] w fun e w' => e = .returned (.tuple #[pass (offer l i).2.1, .int .i64 (offer l i).2.2]) ∧ Dk w' b g me v (offer l i).1 ∧ w.grownBy w' v.ownBlock := by
  have hu := Tryd.underlying29
  cases ha : at_ l i with
  | none =>
    have HD := Aside0.mk hD
    have HF : Aside0 (offer l i = (l, (0, 0, 0), 4)) := ⟨by unfold offer; rw [ha]⟩
    have HA := Aside0.mk (at_none ha)
    clear ha hD
    go_enter Tryd.func21, Tryd.ntmps21
    go_wp2_with (go_at_call 59; (with_reducible refine (find_no b g me v l i _ (HD.out.alloc _) hl HA.out).mono ?_); rintro e w1 ⟨rfl, rfl⟩)
    refine bodyPost_ret (results_ct rfl _ _ w.heap.size 29 #[.int .i64 0, .int .i64 0, .int .i64 0] (0, 0) _ rfl (blk_new _ _) hu rfl (by kernel_rfl)) rfl ?_
    exact ⟨by rw [HF.out]; rfl, by rw [HF.out]; exact HD.out.alloc _, World.grownBy_alloc _ _ _⟩
  | some q =>
    obtain ⟨k, rfl, hk, hq⟩ := at_some ha
    obtain ⟨r, cap, rfl⟩ := hD.form hk
    have hc := hD.cells hk
    rw [hq] at hc
    obtain ⟨c0, c1, _⟩ := hc
    have f0 := hD.free (k * 3)
    have f1 := hD.free (k * 3 + 1)
    have hlt := hD.lt
    have HD := Aside0.mk hD
    clear hD
    by_cases h2 : q.ph = 1
    · have HF : Aside0 (offer l (k : Int) = (l.set k ⟨2, wrap64 (q.no + 1), q.rf⟩, (0, (k : Int), wrap64 (q.no + 1)), 0)) := ⟨by unfold offer; rw [ha]; simp only; rw [if_pos h2]; rfl⟩
      have HG : Aside0 (again (l.set k ⟨2, wrap64 (q.no + 1), q.rf⟩) (k : Int) = ((0, (k : Int), wrap64 (q.no + 1)), 0)) := ⟨by
        unfold again
        have : at_ (l.set k ⟨2, wrap64 (q.no + 1), q.rf⟩) (k : Int) = some ⟨2, wrap64 (q.no + 1), q.rf⟩ := by
          unfold at_
          rw [if_pos (Int.natCast_nonneg _)]
          simp [hk]
        rw [this]
        simp⟩
      have HQ : Aside0 (l[k] = q) := ⟨hq⟩
      have b1 : (q.ph != 1) = false := by rw [h2]; rfl
      clear h2 hq ha
      go_enter Tryd.func21, Tryd.ntmps21
      go_wp2_with (go_at_call 59; (with_reducible refine (find_yes b g r cap me l k _ (HD.out.alloc _) hl hk).mono ?_); rintro e w1 ⟨rfl, rfl⟩)
      (with_reducible refine (again_calls b g me (.slice (some ⟨r, 0, none⟩) l.length cap) (l.set k ⟨2, wrap64 (q.no + 1), q.rf⟩) (k : Int) _ ?c1 (by rw [List.length_set]; exact hl)).mono ?_)
      (case c1 => have := (HD.out.put2 hk 2 (wrap64 (q.no + 1))).alloc (.cells #[.int .i64 0, .int .i64 0, .int .i64 0] 29 (0, 0)); rw [HQ.out] at this; exact this)
      rintro e w5 ⟨rfl, hb⟩
      rw [HG.out]
      simp only [pass]
      have HW : Aside0 (Dk w5 b g me (.slice (some ⟨r, 0, none⟩) l.length cap) (l.set k ⟨2, wrap64 (q.no + 1), q.rf⟩)) := ⟨by
        have := (HD.out.put2 hk 2 (wrap64 (q.no + 1))).alloc (.cells #[.int .i64 0, .int .i64 0, .int .i64 0] 29 (0, 0)); rw [HQ.out] at this; exact this.below hb⟩
      have HB : Aside0 (w5.heap[w.heap.size]? = some (.cells #[.int .i64 0, .int .i64 0, .int .i64 0] 29 (0, 0))) := ⟨blk_below (by
        have := blk_new ((w.setCell ⟨r, k * 3, none⟩ (.int .i64 2)).setCell ⟨r, k * 3 + 1, none⟩ (.int .i64 (wrap64 (q.no + 1)))) (.cells #[.int .i64 0, .int .i64 0, .int .i64 0] 29 (0, 0))
        simpa only [size_set] using this) hb⟩
      have HR : Aside0 (w.grownBy w5 (some r)) := ⟨grown_below (grown_trans (grown_trans (grown_set _ _ _ _) (grown_set _ _ _ _)) (World.grownBy_alloc _ _ _)) hb⟩
      clear hb c0 c1 f0 f1
      have z0 := (blk_cell HB.out 0).trans rfl
      have z1 := (blk_cell HB.out 1).trans rfl
      have z2 := (blk_cell HB.out 2).trans rfl
      have y0 := blk_frozen HB.out 0
      have y1 := blk_frozen HB.out 1
      have y2 := blk_frozen HB.out 2
      go_wp2
      refine bodyPost_ret (results_ct rfl _ _ w.heap.size 29 #[.int .i64 0, .int .i64 (k : Int), .int .i64 (wrap64 (q.no + 1))] (0, 0) _ rfl ((blk_set (blk_set (blk_set HB.out 0 _) 1 _) 2 _).trans rfl) hu rfl (by kernel_rfl)) rfl ?_
      refine ⟨by rw [HF.out]; rfl, ?_, grown_new (grown_new (grown_new HR.out (Nat.le_refl _) 0 _) (Nat.le_refl _) 1 _) (Nat.le_refl _) 2 _⟩
      rw [HF.out]
      exact Dk.far (Dk.far (Dk.far HW.out HB.out (by decide) (by decide) 0 _) (blk_set HB.out 0 _) (by decide) (by decide) 1 _) (blk_set (blk_set HB.out 0 _) 1 _) (by decide) (by decide) 2 _
    · have HF : Aside0 (offer l (k : Int) = (l, (0, 0, 0), 7)) := ⟨by unfold offer; rw [ha]; simp only; rw [if_neg h2]⟩
      have b1 : (q.ph != 1) = true := bne_iff_ne.2 h2
      clear h2 hq ha
      go_enter Tryd.func21, Tryd.ntmps21
      go_wp2_with (go_at_call 59; (with_reducible refine (find_yes b g r cap me l k _ (HD.out.alloc _) hl hk).mono ?_); rintro e w1 ⟨rfl, rfl⟩)
      refine bodyPost_ret (results_ct rfl _ _ w.heap.size 29 #[.int .i64 0, .int .i64 0, .int .i64 0] (0, 0) _ rfl (blk_new _ _) hu rfl (by kernel_rfl)) rfl ?_
      exact ⟨by rw [HF.out]; rfl, by rw [HF.out]; exact HD.out.alloc _, World.grownBy_alloc _ _ _⟩
end Go.Proofs.YtdgbfaflepiagaaDoor.Seam
