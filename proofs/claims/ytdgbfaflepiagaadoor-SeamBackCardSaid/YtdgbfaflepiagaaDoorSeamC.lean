/- The desk of package seam: the walk of Hear. -/
import Derived.Test.YtdgbfaflepiagaaDoorSeamB
namespace Go.Proofs.YtdgbfaflepiagaaDoor.Seam
open Go.RowKit Go.Proofs.YtdgbfaflepiagaaDoorW.PrintWords Go.Proofs.YtdgbfaflepiagaaDoorW.PrintMore
set_option linter.unusedVariables false
set_option linter.unusedSimpArgs false
def hear (l : List Rob) (p : P3) (take : Bool) : List Rob × P3 × Bool × Int := match at_ l p.2.1 with
  | none => (l, (0, 0, 0), false, 4)
  | some q =>
    if p.1 = 0 then (if (q.offered p.2.2 take).2.1 < 0 then (l.set p.2.1.toNat (q.offered p.2.2 take).1, (0, 0, 0), false, (q.offered p.2.2 take).2.2) else (l.set p.2.1.toNat (q.offered p.2.2 take).1, ((q.offered p.2.2 take).2.1, p.2.1, p.2.2), true, (q.offered p.2.2 take).2.2))
    else if p.1 = 1 then (l.set p.2.1.toNat (q.taken p.2.2), (0, 0, 0), false, 0)
    else if p.1 = 2 then (l.set p.2.1.toNat (q.kept p.2.2), (0, 0, 0), false, 0)
    else (l, (0, 0, 0), false, 4)
theorem size2 (w : World) (o o' : Obj) : ((w.alloc o).alloc o').heap.size = w.heap.size + 1 + 1 := by simp
theorem size1 (w : World) (o : Obj) : (w.alloc o).heap.size = w.heap.size + 1 := by simp
section
variable {w w1 : World} {b g r cap : Nat} {me : Int} {l : List Rob}
/-- Behind a robot's own call. -/
theorem Dk.puts (h : Dk w b g me (.slice (some ⟨r, 0, none⟩) l.length cap) l) {k : Nat} (hk : k < l.length) {q q' : Rob} (hq : l[k] = q) (hp : Puts w w1 r (k * 3) q q') : Dk w1 b g me (.slice (some ⟨r, 0, none⟩) l.length cap) (l.set k q') ∧ w.grownBy w1 (some r) := by
  rcases hp with ⟨rfl, rfl⟩ | rfl
  · rw [← hq, List.set_getElem_self]; exact ⟨h, World.grownBy.refl _ _⟩
  · exact ⟨h.put3 hk q', grown_put3 _ _ _ _⟩
theorem Dk.puts1 (h : Dk w b g me (.slice (some ⟨r, 0, none⟩) l.length cap) l) {k : Nat} (hk : k < l.length) {q q' : Rob} (hq : l[k] = q) (hp : (q' = q ∧ w1 = w) ∨ (q' = { q with ph := 1 } ∧ w1 = w.setCell ⟨r, k * 3, none⟩ (.int .i64 1))) : Dk w1 b g me (.slice (some ⟨r, 0, none⟩) l.length cap) (l.set k q') ∧ w.grownBy w1 (some r) := by
  rcases hp with ⟨rfl, rfl⟩ | ⟨rfl, rfl⟩
  · rw [← hq, List.set_getElem_self]; exact ⟨h, World.grownBy.refl _ _⟩
  · rw [← hq]; exact ⟨h.put1 hk 1, grown_set _ _ _ _⟩
end
theorem offered_ans (q : Rob) (no : Int) (take : Bool) : -1 ≤ (q.offered no take).2.1 ∧ (q.offered no take).2.1 ≤ 2 := by
  unfold Rob.offered
  repeat' split
  all_goals simp
set_option maxHeartbeats 8000000 in
set_option maxRecDepth 100000 in
theorem hear_calls (b g : Nat) (me : Int) (v : Value) (l : List Rob) (kd rb no : Int) (take : Bool) (w : World) (hD : Dk w b g me v l) (hl : l.length ≤ 1000000) :
    Calls Tryd.prog 25 #[.pointer (some ⟨g, 0, none⟩), .agg #[.int .i64 kd, .int .i64 rb, .int .i64 no], .bool take] w fun e w' => e = .returned (.tuple #[pass (hear l (kd, rb, no) take).2.1, .bool (hear l (kd, rb, no) take).2.2.1, .int .i64 (hear l (kd, rb, no) take).2.2.2]) ∧ Dk w' b g me v (hear l (kd, rb, no) take).1 ∧ w.grownBy w' v.ownBlock := by
  have hu := Tryd.underlying29
  cases ha : at_ l rb with
  | none =>
    have HD := Aside0.mk hD
    have HF : Aside0 (hear l (kd, rb, no) take = (l, (0, 0, 0), false, 4)) := ⟨by unfold hear; simp only; rw [ha]⟩
    have HA := Aside0.mk (at_none ha)
    clear ha hD
    go_enter Tryd.func25, Tryd.ntmps25
    go_wp2_with (go_at_call 59; (with_reducible refine (find_no b g me v l rb _ ((HD.out.alloc _).alloc _) hl HA.out).mono ?_); rintro e w1 ⟨rfl, rfl⟩)
    refine bodyPost_ret (results_ctt rfl _ _ (w.heap.size + 1) 29 #[.int .i64 0, .int .i64 0, .int .i64 0] (0, 0) _ rfl (by have := blk_new (w.alloc (.cells #[.int .i64 kd, .int .i64 rb, .int .i64 no] 29 (0, 0))) (.cells #[.int .i64 0, .int .i64 0, .int .i64 0] 29 (0, 0)); simpa only [size1] using this) hu rfl (by kernel_rfl)) rfl ?_
    exact ⟨by rw [HF.out]; rfl, by rw [HF.out]; exact (HD.out.alloc _).alloc _, grown_of_b (below_alloc (below_alloc (Below.refl _ _) _) _) _⟩
  | some q =>
    obtain ⟨k, rfl, hk, hq⟩ := at_some ha
    obtain ⟨r, cap, rfl⟩ := hD.form hk
    have hlt := hD.lt
    have HQ := Aside0.mk hq
    have HD := Aside0.mk hD
    clear hD hq
    by_cases h0 : kd = 0
    · subst h0
      have ho := offered_ans q no take
      by_cases hn : (q.offered no take).2.1 < 0
      · have HF : Aside0 (hear l (0, (k : Int), no) take = (l.set k (q.offered no take).1, (0, 0, 0), false, (q.offered no take).2.2)) := ⟨by unfold hear; simp only; rw [ha]; simp only; rw [if_pos trivial, if_pos hn]; rfl⟩
        have b1 : decide ((q.offered no take).2.1 < 0) = true := decide_eq_true hn
        clear hn ha ho
        go_enter Tryd.func25, Tryd.ntmps25
        go_wp2_with fail
        (with_reducible refine (find_yes b g r cap me l k _ ((HD.out.alloc _).alloc _) hl hk).mono ?_)
        rintro e w1 ⟨rfl, rfl⟩
        go_wp2_with fail
        (with_reducible refine (offered r (k * 3) q no take _ ?c0 ?c1 ?c2 ?c3).mono ?_)
        (case c0 => have := ((HD.out.alloc (.cells #[.int .i64 0, .int .i64 (k : Int), .int .i64 no] 29 (0, 0))).alloc (.cells #[.int .i64 0, .int .i64 0, .int .i64 0] 29 (0, 0))).cells hk; rw [HQ.out] at this; exact this.1)
        (case c1 => have := ((HD.out.alloc (.cells #[.int .i64 0, .int .i64 (k : Int), .int .i64 no] 29 (0, 0))).alloc (.cells #[.int .i64 0, .int .i64 0, .int .i64 0] 29 (0, 0))).cells hk; rw [HQ.out] at this; exact this.2.1)
        (case c2 => have := ((HD.out.alloc (.cells #[.int .i64 0, .int .i64 (k : Int), .int .i64 no] 29 (0, 0))).alloc (.cells #[.int .i64 0, .int .i64 0, .int .i64 0] 29 (0, 0))).cells hk; rw [HQ.out] at this; exact this.2.2)
        (case c3 => exact fun j => ((HD.out.alloc (.cells #[.int .i64 0, .int .i64 (k : Int), .int .i64 no] 29 (0, 0))).alloc (.cells #[.int .i64 0, .int .i64 0, .int .i64 0] 29 (0, 0))).free j)
        rintro e w5 ⟨rfl, hp⟩
        replace HD := Aside0.mk (Dk.puts ((HD.out.alloc (.cells #[.int .i64 0, .int .i64 (k : Int), .int .i64 no] 29 (0, 0))).alloc (.cells #[.int .i64 0, .int .i64 0, .int .i64 0] 29 (0, 0))) hk HQ.out hp)
        have HB4 := Aside0.mk (blk_grown (blk_alloc (blk_new w (.cells #[.int .i64 0, .int .i64 (k : Int), .int .i64 no] 29 (0, 0))) (.cells #[.int .i64 0, .int .i64 0, .int .i64 0] 29 (0, 0))) HD.out.2 (fun e => by injection e with e; omega))
        have HB6 := Aside0.mk (blk_grown (show ((w.alloc (.cells #[.int .i64 0, .int .i64 (k : Int), .int .i64 no] 29 (0, 0))).alloc (.cells #[.int .i64 0, .int .i64 0, .int .i64 0] 29 (0, 0))).heap[w.heap.size + 1]? = _ by have := blk_new (w.alloc (.cells #[.int .i64 0, .int .i64 (k : Int), .int .i64 no] 29 (0, 0))) (.cells #[.int .i64 0, .int .i64 0, .int .i64 0] 29 (0, 0)); simpa only [size1] using this) HD.out.2 (fun e => by injection e with e; omega))
        have HR := Aside0.mk (grown_trans (grown_of_b (below_alloc (below_alloc (Below.refl _ _) (.cells #[.int .i64 0, .int .i64 (k : Int), .int .i64 no] 29 (0, 0))) (.cells #[.int .i64 0, .int .i64 0, .int .i64 0] 29 (0, 0))) (some r)) HD.out.2)
        clear hp
        have p0 := (blk_cell HB4.out 0).trans rfl
        have p1 := (blk_cell HB4.out 1).trans rfl
        have p2 := (blk_cell HB4.out 2).trans rfl
        have z0 := (blk_cell HB6.out 0).trans rfl
        have z1 := (blk_cell HB6.out 1).trans rfl
        have z2 := (blk_cell HB6.out 2).trans rfl
        have y0 := blk_frozen HB6.out 0
        have y1 := blk_frozen HB6.out 1
        have y2 := blk_frozen HB6.out 2
        go_wp2
        refine bodyPost_ret (results_ctt rfl _ _ (w.heap.size + 1) 29 #[.int .i64 0, .int .i64 0, .int .i64 0] (0, 0) _ rfl ((blk_set (blk_set (blk_set HB6.out 0 _) 1 _) 2 _).trans rfl) hu rfl (by kernel_rfl)) rfl ?_
        refine ⟨by rw [HF.out]; rfl, ?_, grown_new (grown_new (grown_new HR.out (Nat.le_succ _) 0 _) (Nat.le_succ _) 1 _) (Nat.le_succ _) 2 _⟩
        rw [HF.out]
        exact Dk.far (Dk.far (Dk.far HD.out.1 HB6.out (by decide) (by decide) 0 _) (blk_set HB6.out 0 _) (by decide) (by decide) 1 _) (blk_set (blk_set HB6.out 0 _) 1 _) (by decide) (by decide) 2 _
      · have HF : Aside0 (hear l (0, (k : Int), no) take = (l.set k (q.offered no take).1, ((q.offered no take).2.1, (k : Int), no), true, (q.offered no take).2.2)) := ⟨by unfold hear; simp only; rw [ha]; simp only; rw [if_pos trivial, if_neg hn]; rfl⟩
        have b1 : decide ((q.offered no take).2.1 < 0) = false := decide_eq_false hn
        clear hn ha ho
        go_enter Tryd.func25, Tryd.ntmps25
        go_wp2_with fail
        (with_reducible refine (find_yes b g r cap me l k _ ((HD.out.alloc _).alloc _) hl hk).mono ?_)
        rintro e w1 ⟨rfl, rfl⟩
        go_wp2_with fail
        (with_reducible refine (offered r (k * 3) q no take _ ?c0 ?c1 ?c2 ?c3).mono ?_)
        (case c0 => have := ((HD.out.alloc (.cells #[.int .i64 0, .int .i64 (k : Int), .int .i64 no] 29 (0, 0))).alloc (.cells #[.int .i64 0, .int .i64 0, .int .i64 0] 29 (0, 0))).cells hk; rw [HQ.out] at this; exact this.1)
        (case c1 => have := ((HD.out.alloc (.cells #[.int .i64 0, .int .i64 (k : Int), .int .i64 no] 29 (0, 0))).alloc (.cells #[.int .i64 0, .int .i64 0, .int .i64 0] 29 (0, 0))).cells hk; rw [HQ.out] at this; exact this.2.1)
        (case c2 => have := ((HD.out.alloc (.cells #[.int .i64 0, .int .i64 (k : Int), .int .i64 no] 29 (0, 0))).alloc (.cells #[.int .i64 0, .int .i64 0, .int .i64 0] 29 (0, 0))).cells hk; rw [HQ.out] at this; exact this.2.2)
        (case c3 => exact fun j => ((HD.out.alloc (.cells #[.int .i64 0, .int .i64 (k : Int), .int .i64 no] 29 (0, 0))).alloc (.cells #[.int .i64 0, .int .i64 0, .int .i64 0] 29 (0, 0))).free j)
        rintro e w5 ⟨rfl, hp⟩
        replace HD := Aside0.mk (Dk.puts ((HD.out.alloc (.cells #[.int .i64 0, .int .i64 (k : Int), .int .i64 no] 29 (0, 0))).alloc (.cells #[.int .i64 0, .int .i64 0, .int .i64 0] 29 (0, 0))) hk HQ.out hp)
        have HB4 := Aside0.mk (blk_grown (blk_alloc (blk_new w (.cells #[.int .i64 0, .int .i64 (k : Int), .int .i64 no] 29 (0, 0))) (.cells #[.int .i64 0, .int .i64 0, .int .i64 0] 29 (0, 0))) HD.out.2 (fun e => by injection e with e; omega))
        have HB6 := Aside0.mk (blk_grown (show ((w.alloc (.cells #[.int .i64 0, .int .i64 (k : Int), .int .i64 no] 29 (0, 0))).alloc (.cells #[.int .i64 0, .int .i64 0, .int .i64 0] 29 (0, 0))).heap[w.heap.size + 1]? = _ by have := blk_new (w.alloc (.cells #[.int .i64 0, .int .i64 (k : Int), .int .i64 no] 29 (0, 0))) (.cells #[.int .i64 0, .int .i64 0, .int .i64 0] 29 (0, 0)); simpa only [size1] using this) HD.out.2 (fun e => by injection e with e; omega))
        have HR := Aside0.mk (grown_trans (grown_of_b (below_alloc (below_alloc (Below.refl _ _) (.cells #[.int .i64 0, .int .i64 (k : Int), .int .i64 no] 29 (0, 0))) (.cells #[.int .i64 0, .int .i64 0, .int .i64 0] 29 (0, 0))) (some r)) HD.out.2)
        clear hp
        have p0 := (blk_cell HB4.out 0).trans rfl
        have p1 := (blk_cell HB4.out 1).trans rfl
        have p2 := (blk_cell HB4.out 2).trans rfl
        have z0 := (blk_cell HB6.out 0).trans rfl
        have z1 := (blk_cell HB6.out 1).trans rfl
        have z2 := (blk_cell HB6.out 2).trans rfl
        have y0 := blk_frozen HB6.out 0
        have y1 := blk_frozen HB6.out 1
        have y2 := blk_frozen HB6.out 2
        go_wp2
        refine bodyPost_ret (results_ctt rfl _ _ (w.heap.size + 1) 29 #[.int .i64 (q.offered no take).2.1, .int .i64 (k : Int), .int .i64 no] (0, 0) _ rfl ((blk_set (blk_set (blk_set HB6.out 0 _) 1 _) 2 _).trans rfl) hu rfl (by kernel_rfl)) rfl ?_
        refine ⟨by rw [HF.out]; rfl, ?_, grown_new (grown_new (grown_new HR.out (Nat.le_succ _) 0 _) (Nat.le_succ _) 1 _) (Nat.le_succ _) 2 _⟩
        rw [HF.out]
        exact Dk.far (Dk.far (Dk.far HD.out.1 HB6.out (by decide) (by decide) 0 _) (blk_set HB6.out 0 _) (by decide) (by decide) 1 _) (blk_set (blk_set HB6.out 0 _) 1 _) (by decide) (by decide) 2 _
    by_cases h1 : kd = 1
    · subst h1
      have HF : Aside0 (hear l (1, (k : Int), no) take = (l.set k (q.taken no), (0, 0, 0), false, 0)) := ⟨by unfold hear; simp only; rw [ha]; simp⟩
      clear ha h0
      go_enter Tryd.func25, Tryd.ntmps25
      go_wp2_with fail
      (with_reducible refine (find_yes b g r cap me l k _ ((HD.out.alloc _).alloc _) hl hk).mono ?_)
      rintro e w1 ⟨rfl, rfl⟩
      go_wp2_with fail
      (with_reducible refine (taken r (k * 3) q no take _ ?c0 ?c1 ?c2 ?c3).mono ?_)
      (case c0 => have := ((HD.out.alloc (.cells #[.int .i64 1, .int .i64 (k : Int), .int .i64 no] 29 (0, 0))).alloc (.cells #[.int .i64 0, .int .i64 0, .int .i64 0] 29 (0, 0))).cells hk; rw [HQ.out] at this; exact this.1)
      (case c1 => have := ((HD.out.alloc (.cells #[.int .i64 1, .int .i64 (k : Int), .int .i64 no] 29 (0, 0))).alloc (.cells #[.int .i64 0, .int .i64 0, .int .i64 0] 29 (0, 0))).cells hk; rw [HQ.out] at this; exact this.2.1)
      (case c2 => have := ((HD.out.alloc (.cells #[.int .i64 1, .int .i64 (k : Int), .int .i64 no] 29 (0, 0))).alloc (.cells #[.int .i64 0, .int .i64 0, .int .i64 0] 29 (0, 0))).cells hk; rw [HQ.out] at this; exact this.2.2)
      (case c3 => exact fun j => ((HD.out.alloc (.cells #[.int .i64 1, .int .i64 (k : Int), .int .i64 no] 29 (0, 0))).alloc (.cells #[.int .i64 0, .int .i64 0, .int .i64 0] 29 (0, 0))).free j)
      rintro e w5 ⟨rfl, hp⟩
      replace HD := Aside0.mk (Dk.puts ((HD.out.alloc (.cells #[.int .i64 1, .int .i64 (k : Int), .int .i64 no] 29 (0, 0))).alloc (.cells #[.int .i64 0, .int .i64 0, .int .i64 0] 29 (0, 0))) hk HQ.out hp)
      have HB4 := Aside0.mk (blk_grown (blk_alloc (blk_new w (.cells #[.int .i64 1, .int .i64 (k : Int), .int .i64 no] 29 (0, 0))) (.cells #[.int .i64 0, .int .i64 0, .int .i64 0] 29 (0, 0))) HD.out.2 (fun e => by injection e with e; omega))
      have HB6 := Aside0.mk (blk_grown (show ((w.alloc (.cells #[.int .i64 1, .int .i64 (k : Int), .int .i64 no] 29 (0, 0))).alloc (.cells #[.int .i64 0, .int .i64 0, .int .i64 0] 29 (0, 0))).heap[w.heap.size + 1]? = _ by have := blk_new (w.alloc (.cells #[.int .i64 1, .int .i64 (k : Int), .int .i64 no] 29 (0, 0))) (.cells #[.int .i64 0, .int .i64 0, .int .i64 0] 29 (0, 0)); simpa only [size1] using this) HD.out.2 (fun e => by injection e with e; omega))
      have HR := Aside0.mk (grown_trans (grown_of_b (below_alloc (below_alloc (Below.refl _ _) (.cells #[.int .i64 1, .int .i64 (k : Int), .int .i64 no] 29 (0, 0))) (.cells #[.int .i64 0, .int .i64 0, .int .i64 0] 29 (0, 0))) (some r)) HD.out.2)
      clear hp
      have p0 := (blk_cell HB4.out 0).trans rfl
      have p1 := (blk_cell HB4.out 1).trans rfl
      have p2 := (blk_cell HB4.out 2).trans rfl
      have z0 := (blk_cell HB6.out 0).trans rfl
      have z1 := (blk_cell HB6.out 1).trans rfl
      have z2 := (blk_cell HB6.out 2).trans rfl
      have y0 := blk_frozen HB6.out 0
      have y1 := blk_frozen HB6.out 1
      have y2 := blk_frozen HB6.out 2
      go_wp2
      refine bodyPost_ret (results_ctt rfl _ _ (w.heap.size + 1) 29 #[.int .i64 0, .int .i64 0, .int .i64 0] (0, 0) _ rfl ((blk_set (blk_set (blk_set HB6.out 0 _) 1 _) 2 _).trans rfl) hu rfl (by kernel_rfl)) rfl ?_
      refine ⟨by rw [HF.out]; rfl, ?_, grown_new (grown_new (grown_new HR.out (Nat.le_succ _) 0 _) (Nat.le_succ _) 1 _) (Nat.le_succ _) 2 _⟩
      rw [HF.out]
      exact Dk.far (Dk.far (Dk.far HD.out.1 HB6.out (by decide) (by decide) 0 _) (blk_set HB6.out 0 _) (by decide) (by decide) 1 _) (blk_set (blk_set HB6.out 0 _) 1 _) (by decide) (by decide) 2 _
    by_cases h2 : kd = 2
    · subst h2
      have HF : Aside0 (hear l (2, (k : Int), no) take = (l.set k (q.kept no), (0, 0, 0), false, 0)) := ⟨by unfold hear; simp only; rw [ha]; simp⟩
      clear ha h0 h1
      go_enter Tryd.func25, Tryd.ntmps25
      go_wp2_with fail
      (with_reducible refine (find_yes b g r cap me l k _ ((HD.out.alloc _).alloc _) hl hk).mono ?_)
      rintro e w1 ⟨rfl, rfl⟩
      go_wp2_with fail
      (with_reducible refine (kept r (k * 3) q no take _ ?c0 ?c1 ?c2 ?c3).mono ?_)
      (case c0 => have := ((HD.out.alloc (.cells #[.int .i64 2, .int .i64 (k : Int), .int .i64 no] 29 (0, 0))).alloc (.cells #[.int .i64 0, .int .i64 0, .int .i64 0] 29 (0, 0))).cells hk; rw [HQ.out] at this; exact this.1)
      (case c1 => have := ((HD.out.alloc (.cells #[.int .i64 2, .int .i64 (k : Int), .int .i64 no] 29 (0, 0))).alloc (.cells #[.int .i64 0, .int .i64 0, .int .i64 0] 29 (0, 0))).cells hk; rw [HQ.out] at this; exact this.2.1)
      (case c2 => have := ((HD.out.alloc (.cells #[.int .i64 2, .int .i64 (k : Int), .int .i64 no] 29 (0, 0))).alloc (.cells #[.int .i64 0, .int .i64 0, .int .i64 0] 29 (0, 0))).cells hk; rw [HQ.out] at this; exact this.2.2)
      (case c3 => exact fun j => ((HD.out.alloc (.cells #[.int .i64 2, .int .i64 (k : Int), .int .i64 no] 29 (0, 0))).alloc (.cells #[.int .i64 0, .int .i64 0, .int .i64 0] 29 (0, 0))).free j)
      rintro e w5 ⟨rfl, hp⟩
      replace HD := Aside0.mk (Dk.puts1 ((HD.out.alloc (.cells #[.int .i64 2, .int .i64 (k : Int), .int .i64 no] 29 (0, 0))).alloc (.cells #[.int .i64 0, .int .i64 0, .int .i64 0] 29 (0, 0))) hk HQ.out hp)
      have HB4 := Aside0.mk (blk_grown (blk_alloc (blk_new w (.cells #[.int .i64 2, .int .i64 (k : Int), .int .i64 no] 29 (0, 0))) (.cells #[.int .i64 0, .int .i64 0, .int .i64 0] 29 (0, 0))) HD.out.2 (fun e => by injection e with e; omega))
      have HB6 := Aside0.mk (blk_grown (show ((w.alloc (.cells #[.int .i64 2, .int .i64 (k : Int), .int .i64 no] 29 (0, 0))).alloc (.cells #[.int .i64 0, .int .i64 0, .int .i64 0] 29 (0, 0))).heap[w.heap.size + 1]? = _ by have := blk_new (w.alloc (.cells #[.int .i64 2, .int .i64 (k : Int), .int .i64 no] 29 (0, 0))) (.cells #[.int .i64 0, .int .i64 0, .int .i64 0] 29 (0, 0)); simpa only [size1] using this) HD.out.2 (fun e => by injection e with e; omega))
      have HR := Aside0.mk (grown_trans (grown_of_b (below_alloc (below_alloc (Below.refl _ _) (.cells #[.int .i64 2, .int .i64 (k : Int), .int .i64 no] 29 (0, 0))) (.cells #[.int .i64 0, .int .i64 0, .int .i64 0] 29 (0, 0))) (some r)) HD.out.2)
      clear hp
      have p0 := (blk_cell HB4.out 0).trans rfl
      have p1 := (blk_cell HB4.out 1).trans rfl
      have p2 := (blk_cell HB4.out 2).trans rfl
      have z0 := (blk_cell HB6.out 0).trans rfl
      have z1 := (blk_cell HB6.out 1).trans rfl
      have z2 := (blk_cell HB6.out 2).trans rfl
      have y0 := blk_frozen HB6.out 0
      have y1 := blk_frozen HB6.out 1
      have y2 := blk_frozen HB6.out 2
      go_wp2
      refine bodyPost_ret (results_ctt rfl _ _ (w.heap.size + 1) 29 #[.int .i64 0, .int .i64 0, .int .i64 0] (0, 0) _ rfl ((blk_set (blk_set (blk_set HB6.out 0 _) 1 _) 2 _).trans rfl) hu rfl (by kernel_rfl)) rfl ?_
      refine ⟨by rw [HF.out]; rfl, ?_, grown_new (grown_new (grown_new HR.out (Nat.le_succ _) 0 _) (Nat.le_succ _) 1 _) (Nat.le_succ _) 2 _⟩
      rw [HF.out]
      exact Dk.far (Dk.far (Dk.far HD.out.1 HB6.out (by decide) (by decide) 0 _) (blk_set HB6.out 0 _) (by decide) (by decide) 1 _) (blk_set (blk_set HB6.out 0 _) 1 _) (by decide) (by decide) 2 _
    · have HF : Aside0 (hear l (kd, (k : Int), no) take = (l, (0, 0, 0), false, 4)) := ⟨by unfold hear; simp only; rw [ha]; simp only; rw [if_neg h0, if_neg h1, if_neg h2]⟩
      have b0 : (kd == 0) = false := beq_eq_false_iff_ne.2 h0
      have b1 : (kd == 1) = false := beq_eq_false_iff_ne.2 h1
      have b2 : (kd == 2) = false := beq_eq_false_iff_ne.2 h2
      clear ha h0 h1 h2
      go_enter Tryd.func25, Tryd.ntmps25
      go_wp2_with (go_at_call 59; (with_reducible refine (find_yes b g r cap me l k _ ((HD.out.alloc _).alloc _) hl hk).mono ?_); rintro e w1 ⟨rfl, rfl⟩)
      refine bodyPost_ret (results_ctt rfl _ _ (w.heap.size + 1) 29 #[.int .i64 0, .int .i64 0, .int .i64 0] (0, 0) _ rfl (by have := blk_new (w.alloc (.cells #[.int .i64 kd, .int .i64 (k : Int), .int .i64 no] 29 (0, 0))) (.cells #[.int .i64 0, .int .i64 0, .int .i64 0] 29 (0, 0)); simpa only [size1] using this) hu rfl (by kernel_rfl)) rfl ?_
      exact ⟨by rw [HF.out]; rfl, by rw [HF.out]; exact (HD.out.alloc _).alloc _, grown_of_b (below_alloc (below_alloc (Below.refl _ _) _) _) _⟩
end Go.Proofs.YtdgbfaflepiagaaDoor.Seam
