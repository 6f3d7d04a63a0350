/- The desk of package seam: New, Copy. -/
import Derived.Test.YtdgbfaflepiagaaDoorSeamB
import Derived.Deep.RegionLaw
import Derived.Deep.RegionHeld3
namespace Go.Proofs.YtdgbfaflepiagaaDoor.Seam
open Go.RowKit Go.Proofs.YtdgbfaflepiagaaDoorW.PrintWords Go.Proofs.YtdgbfaflepiagaaDoorW.PrintMore
set_option linter.unusedVariables false
set_option linter.unusedSimpArgs false
def rob0 (is : Bool) : Rob := ⟨if is then 1 else 0, 0, false⟩
theorem infoRob : (Tryd.prog.info? 83).map (fun i => (i.zero, i.size, i.bytes)) = some (some (.agg #[.int .i64 0, .int .i64 0, .bool false]), 3, 24) := by kernel_rfl
def bools_ (w : World) (A : Option Addr) (l : List Bool) : Prop := Kd.C Kd.bool w A l.length l
theorem bools_at {w : World} {ad : Addr} {l : List Bool} (h : bools_ w (some ad) l) {k : Nat} (hk : k < l.length) : w.cell? (ad.add k) = some (.bool l[k]) := by
  obtain ⟨ad', e, hc⟩ := h.2.2 (by omega)
  obtain rfl := Option.some.inj e
  obtain ⟨c, hl, hr, hcell⟩ := hc k l[k] (List.getElem?_eq_getElem hk)
  have hcc : c = [.bool l[k]] := hr
  subst hcc
  have := hcell 0 (.bool l[k]) rfl
  simpa [Kd.bool, Kd.scalar] using this
section
variable {P : Program} {ops : Array Oper} {o : Oper} {a : Act} {K : Act → World → Prop} {Q : Exit → Act → World → Prop}
/-- An append of one element, wherever it lies, onto a row of the call's own: in a region that draws. -/
theorem step_append_gen {w0 W : World} (base : Nat) (hw : Region.wanted o (yielded ops a.tmps) = true) (s x : Operand) (t e : TypeId) (z : Value) (size bytes : Nat)
    (ho : o.op = .call { callee := .builtin .append, args := #[s, x], argTypes := #[t, t] })
    (ht : P.underlying t = some (.slice e)) (hinfo : (P.info? e).map (fun i => (i.zero, i.size, i.bytes)) = some (some z, size, bytes)) (hz : z.cells.size = size) (hs0 : 0 < size) (hb0 : 0 < bytes)
    (v : Value) (n : Nat) (xs ys : List Value) (ad : Addr) (hs : a.eval s = v) (hx : a.eval x = .slice (some ad) 1 1) (hys : ys.length = size) (h1 : ∀ u ∈ ys, u.oneCell' = true)
    (hc : ∀ j u, ys[j]? = some u → W.cell? (ad.add j) = some u)
    (HO : W.ownsRow base e size v n xs) (HB : Below base w0 W) (hbase : base ≤ W.heap.size) (hl : (n + 1) * bytes ≤ 140737488355328)
    (h : ∀ v1 w1, w1.ownsRow base e size v1 (n + 1) (xs ++ ys) → Below base w0 w1 → W.grownBy w1 v.ownBlock → (v1.ownBlock = v.ownBlock ∨ v1.ownBlock = some W.heap.size) → K (a.put o.dst v1) w1) :
    if Region.wanted o (yielded ops a.tmps) = true then Oper.wp P o a W K Q else K (a.put o.dst undef) W := by
  obtain ⟨i0, hi, hzz⟩ := Option.map_eq_some_iff.1 hinfo
  simp only [Prod.mk.injEq] at hzz
  obtain ⟨hz0, hz1, hz2⟩ := hzz
  have hlen : n + 1 ≤ 140737488355328 := Nat.le_trans (Nat.le_mul_of_pos_right _ hb0) hl
  rw [if_pos hw]
  obtain ⟨v1, w1, hr, hown, hg, _, hat⟩ := run_append_own_at (P := P) W base t o.type e i0 z size bytes ht hi hz0 hz1 hz2 hz hs0 v n xs HO ad 1 1 ys (by rw [hys]; simp) hc h1 (by simp only [maxLen]; omega) hl hbase
  unfold Oper.wp execOp
  simp only [ho, resolve, invoke, builtin, Sem.run_bind, Sem.run_pure, Result.andThen_ok, List.map_toArray, List.map_cons, List.map_nil, hs, hx, hr]
  exact h v1 w1 hown (HB.grown hg hbase (own_base HO)) hg hat
end
theorem three_cells {W : World} {g : Nat} {t : TypeId} {a b c : Value} (h : W.heap[g]? = some (.cells #[a, b, c] t (0, 0))) : ∀ j u, [a, b, c][j]? = some u → W.cell? ((⟨g, 0, none⟩ : Addr).add j) = some u := by
  intro j u hj
  rw [add_plain, blk_cell h j]
  simpa using hj
set_option maxHeartbeats 4000000 in
set_option maxRecDepth 100000 in
theorem new_no (me : Int) (A : Option Addr) (c : Nat) (l : List Bool) (w : World) (hl : l.length ≤ 1000000) (h : (me ≠ 0 ∧ me ≠ 1) ∨ 200 < l.length) :
    Calls Tryd.prog 10 #[.int .i64 me, .slice A l.length c] w fun e w' => e = .returned (.pointer none) ∧ w = w' := by
  by_cases h1 : me ≠ 0 ∧ me ≠ 1
  · have b0 : (me != 0) = true := bne_iff_ne.2 h1.1
    have b1 : (me != 1) = true := bne_iff_ne.2 h1.2
    clear h1 h
    go_enter Tryd.func10, Tryd.ntmps10
    go_wp2
    go_ret
    exact ⟨rfl, rfl⟩
  · have b2 : decide (200 < (l.length : Int)) = true := decide_eq_true (by omega)
    by_cases h2 : me = 0
    · have b0 : (me != 0) = false := by rw [h2]; rfl
      clear h2 h1 h
      go_enter Tryd.func10, Tryd.ntmps10
      go_wp2
      go_ret
      exact ⟨rfl, rfl⟩
    · have b0 : (me != 0) = true := bne_iff_ne.2 h2
      have b1 : (me != 1) = false := by
        have : me = 1 := by omega
        rw [this]; rfl
      clear h2 h1 h
      go_enter Tryd.func10, Tryd.ntmps10
      go_wp2
      go_ret
      exact ⟨rfl, rfl⟩
set_option maxHeartbeats 8000000 in
set_option maxRecDepth 100000 in
theorem new_yes (me : Int) (A : Option Addr) (c : Nat) (l : List Bool) (w : World) (hb : bools_ w A l) (hm : (me != 0) = false ∨ ((me != 0) = true ∧ (me != 1) = false)) (hl : l.length ≤ 200) :
    Calls Tryd.prog 10 #[.int .i64 me, .slice A l.length c] w fun e w' => ∃ (g : Nat) (v : Value), e = .returned (.pointer (some ⟨g, 0, none⟩)) ∧ Dk w' w.heap.size g me v (l.map rob0) ∧ Below w.heap.size w w' := by
  have HBL := Aside0.mk hb
  clear hb
  have b2 : decide (200 < (l.length : Int)) = false := decide_eq_false (by omega)
  rcases hm with b0 | ⟨b0, b1⟩
  all_goals
    go_enter Tryd.func10, Tryd.ntmps10
    go_wp2
    go_loopw [25, 7, 8] (fun t25 _ _ wr => ∃ (k : Nat) (v : Value), k ≤ l.length ∧ t25 = .int .i64 k ∧ Aside0 (Dk wr w.heap.size w.heap.size me v ((l.take k).map rob0) ∧ Below w.heap.size w wr)) (fun t25 _ _ _ => l.length - (intOf t25).toNat)
    case atStart => exact ⟨0, .slice none 0 0, by omega, rfl, ⟨⟨⟨blk_new _ _, own_nil _ _ _ _, Nat.le_refl _⟩, below_alloc (Below.refl _ _) _⟩⟩⟩
    case round =>
      obtain ⟨k, v, hk, rfl, HD⟩ := hrel
      by_cases hlt : k < l.length
      · obtain ⟨ad, rfl⟩ : ∃ ad, A = some ad := by
          obtain ⟨ad, e, _⟩ := HBL.out.2.2 (by omega)
          exact ⟨ad, e⟩
        have hcell := pw_cell_below HD.out.2 (bools_at HBL.out hlt)
        have hn : ((l.take k).map rob0).length = k := by simp; omega
        have ho := HD.out.1.own
        rw [hn] at ho
        obtain ⟨A', c', rfl⟩ := own_slice ho
        have HO := Aside0.mk ho
        clear ho hn
        have hd1 := HD.out.1.c1
        have hdl := blk_lt HD.out.1.blk
        have hdf := blk_frozen HD.out.1.blk 1
        cases hq : l[k] with
        | true =>
          rw [hq] at hcell
          go_wp2
          have HE : Aside0 (∀ u : World, u = ((wr.alloc (.cells #[.int .i64 1, .int .i64 0, .bool false] 83)).alloc (.cells #[.int .i64 1, .int .i64 0, .bool false] 83)) → Below wr.heap.size wr u ∧ u.heap[wr.heap.size + 1]? = some (.cells #[.int .i64 1, .int .i64 0, .bool false] 83 (0, 0))) := ⟨by
            rintro u rfl
            refine ⟨below_alloc (below_alloc (Below.refl _ _) _) _, ?_⟩
            have := blk_new (wr.alloc (.cells #[.int .i64 1, .int .i64 0, .bool false] 83)) (.cells #[.int .i64 1, .int .i64 0, .bool false] 83)
            simpa using this⟩
          go_region_law (refine step_append_gen (w0 := w) w.heap.size (by rfl) (.tmp 36) (.tmp 38) 79 83 (.agg #[.int .i64 0, .int .i64 0, .bool false]) 3 24 rfl Tryd.underlying79 infoRob rfl (by omega) (by omega) (.slice A' k c') k (flat (List.map rob0 (List.take k l))) [.int .i64 1, .int .i64 0, .bool false] ⟨wr.heap.size + 1, 0, none⟩ rfl rfl rfl (by decide) (three_cells (t := 83) (blk_drew (HE.out _ rfl).2)) (pw_own_below HO.out (below_drew (HE.out _ rfl).1)) (below_then HD.out.2 (below_size HD.out.2) (below_drew (HE.out _ rfl).1)) (Nat.le_trans (below_size HD.out.2) (below_drew (HE.out _ rfl).1).size) (by omega) ?_; intro v1 w1 hown hbel hg hat; obtain ⟨A1, d1, rfl⟩ := own_slice hown; have HB1 := Aside0.mk (blk_grown (blk_below HD.out.1.blk (below_drew (HE.out _ rfl).1)) hg (own_ne HO.out HD.out.1.blk (by decide))); have HW1 := Aside0.mk (And.intro hown hbel); clear hown hbel hg hat hd1 hdl hdf; have z1 := (blk_cell HB1.out 1).trans rfl; have zf := blk_frozen HB1.out 1)
          all_goals
            clear z1 zf hcell
            go_wp2
            go_roundw
            case rel =>
              refine ⟨k + 1, .slice A1 (k + 1) d1, by omega, by go_num, ⟨⟨⟨(blk_set HB1.out 1 _).trans rfl, ?_, Nat.le_refl _⟩, HW1.out.2.setCell (p := ⟨w.heap.size, 1, none⟩) (Nat.le_refl _) _⟩⟩⟩
              have e : (l.take (k + 1)).map rob0 = (l.take k).map rob0 ++ [⟨1, 0, false⟩] := by
                rw [List.take_succ_eq_append_getElem hlt, List.map_append, List.map_cons, hq]; rfl
              have hn : ((l.take (k + 1)).map rob0).length = k + 1 := by simp; omega
              rw [hn, e, flat_append]
              exact own_setCell HW1.out.1 (p := ⟨w.heap.size, 1, none⟩) (own_ne HW1.out.1 HB1.out (by decide)) _
            case measure => simp [intOf]; omega
        | false =>
          rw [hq] at hcell
          go_wp2
          have HE : Aside0 (∀ u : World, u = ((wr.alloc (.cells #[.int .i64 0, .int .i64 0, .bool false] 83)).alloc (.cells #[.int .i64 0, .int .i64 0, .bool false] 83)) → Below wr.heap.size wr u ∧ u.heap[wr.heap.size + 1]? = some (.cells #[.int .i64 0, .int .i64 0, .bool false] 83 (0, 0))) := ⟨by
            rintro u rfl
            refine ⟨below_alloc (below_alloc (Below.refl _ _) _) _, ?_⟩
            have := blk_new (wr.alloc (.cells #[.int .i64 0, .int .i64 0, .bool false] 83)) (.cells #[.int .i64 0, .int .i64 0, .bool false] 83)
            simpa using this⟩
          go_region_law (refine step_append_gen (w0 := w) w.heap.size (by rfl) (.tmp 36) (.tmp 38) 79 83 (.agg #[.int .i64 0, .int .i64 0, .bool false]) 3 24 rfl Tryd.underlying79 infoRob rfl (by omega) (by omega) (.slice A' k c') k (flat (List.map rob0 (List.take k l))) [.int .i64 0, .int .i64 0, .bool false] ⟨wr.heap.size + 1, 0, none⟩ rfl rfl rfl (by decide) (three_cells (t := 83) (blk_drew (HE.out _ rfl).2)) (pw_own_below HO.out (below_drew (HE.out _ rfl).1)) (below_then HD.out.2 (below_size HD.out.2) (below_drew (HE.out _ rfl).1)) (Nat.le_trans (below_size HD.out.2) (below_drew (HE.out _ rfl).1).size) (by omega) ?_; intro v1 w1 hown hbel hg hat; obtain ⟨A1, d1, rfl⟩ := own_slice hown; have HB1 := Aside0.mk (blk_grown (blk_below HD.out.1.blk (below_drew (HE.out _ rfl).1)) hg (own_ne HO.out HD.out.1.blk (by decide))); have HW1 := Aside0.mk (And.intro hown hbel); clear hown hbel hg hat hd1 hdl hdf; have z1 := (blk_cell HB1.out 1).trans rfl; have zf := blk_frozen HB1.out 1)
          all_goals
            clear z1 zf hcell
            go_wp2
            go_roundw
            case rel =>
              refine ⟨k + 1, .slice A1 (k + 1) d1, by omega, by go_num, ⟨⟨⟨(blk_set HB1.out 1 _).trans rfl, ?_, Nat.le_refl _⟩, HW1.out.2.setCell (p := ⟨w.heap.size, 1, none⟩) (Nat.le_refl _) _⟩⟩⟩
              have e : (l.take (k + 1)).map rob0 = (l.take k).map rob0 ++ [⟨0, 0, false⟩] := by
                rw [List.take_succ_eq_append_getElem hlt, List.map_append, List.map_cons, hq]; rfl
              have hn : ((l.take (k + 1)).map rob0).length = k + 1 := by simp; omega
              rw [hn, e, flat_append]
              exact own_setCell HW1.out.1 (p := ⟨w.heap.size, 1, none⟩) (own_ne HW1.out.1 HB1.out (by decide)) _
            case measure => simp [intOf]; omega
      · have hkl : k = l.length := by omega
        subst hkl
        clear hlt hk
        go_wp2
        go_ret
        have hD := HD.out
        rw [List.take_length] at hD
        exact ⟨_, _, rfl, hD⟩
end Go.Proofs.YtdgbfaflepiagaaDoor.Seam
