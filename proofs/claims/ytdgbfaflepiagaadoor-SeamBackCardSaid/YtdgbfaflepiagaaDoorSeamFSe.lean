/- The desk of package seam: Copy. -/
import Derived.Test.YtdgbfaflepiagaaDoorSeamESe
import Derived.Maps.AppendAt
namespace Go.Proofs.YtdgbfaflepiagaaDoor.Seam
open Go.RowKit Go.Proofs.YtdgbfaflepiagaaDoorW.PrintWords Go.Proofs.YtdgbfaflepiagaaDoorW.PrintMore Go.Proofs.YtdgbfaflepiagaaDoor.PSe Go.Proofs.YtdgbfaflepiagaaDoor.WireMath Go.Proofs.YtdgbfaflepiagaaDoor.WireB
set_option linter.unusedVariables false
set_option linter.unusedSimpArgs false
theorem own_empty (w : World) (e : TypeId) (size : Nat) : (w.alloc (.cells #[] e (0, 0))).ownsRow w.heap.size e size (.slice (some ⟨w.heap.size, 0, none⟩) 0 0) 0 [] :=
  ⟨by simp, .inr ⟨_, 0, #[], rfl, Nat.le_refl _, blk_new _ _, Nat.le_refl _, Nat.zero_le _, by simp, by simp⟩⟩
theorem flat_cells (l : List Rob) : ∀ u ∈ flat l, u.oneCell' = true := by
  intro u hu
  induction l with
  | nil => cases hu
  | cons r l ih =>
    rw [flat_cons] at hu
    simp only [List.mem_cons] at hu
    rcases hu with rfl | rfl | rfl | h
    · rfl
    · rfl
    · rfl
    · exact ih h
set_option maxHeartbeats 4000000 in
set_option maxRecDepth 100000 in
theorem clone_calls (b : Nat) (v : Value) (l : List Rob) (w : World) (ho : w.ownsRow b 83 3 v l.length (flat l)) (hl : l.length ≤ 1000000) :
    Calls Tryd.prog 51 #[v] w fun e w' => ∃ v1 : Value, e = .returned v1 ∧ w'.ownsRow w.heap.size 83 3 v1 l.length (flat l) ∧ Below w.heap.size w w' := by
  rcases ho.2 with ⟨rfl, h0⟩ | ⟨r, cap, cur, rfl, _⟩
  · have h1 : l = [] := List.length_eq_zero_iff.1 h0
    subst h1
    clear ho h0
    have hq := fun w => Lib.run_eql_slice_nil (P := Tryd.prog) w 79 83 none 0 0 0 0 Tryd.underlying79
    go_enter Tryd.func51, Tryd.ntmps51
    go_wp2
    go_ret
    exact ⟨_, rfl, own_nil _ _ _ _, Below.refl _ _⟩
  · have HO := Aside0.mk ho
    clear ho
    obtain ⟨i0, hi, hzz⟩ := Option.map_eq_some_iff.1 infoRob
    simp only [Prod.mk.injEq] at hzz
    obtain ⟨hz0, hz1, hz2⟩ := hzz
    have hq := fun w => Lib.run_eql_slice_nil (P := Tryd.prog) w 79 83 (some ⟨r, 0, none⟩) l.length cap 0 0 Tryd.underlying79
    go_enter Tryd.func51, Tryd.ntmps51
    go_wp2_with (at_builtin; go_loud (refine wpList_append_own_at _ rfl (.tmp 5) (.tmp 6) 79 rfl w.heap.size 83 i0 (.agg #[.int .i64 0, .int .i64 0, .bool false]) 3 24 Tryd.underlying79 hi hz0 hz1 hz2 rfl (by omega) (.slice (some ⟨w.heap.size, 0, none⟩) 0 0) 0 [] rfl ?h1 ⟨r, 0, none⟩ l.length cap (flat l) rfl (flat_length l) ?h2 (flat_cells l) ?h3 ?h4 ?h5 ?_))
    case h1 => exact own_empty w 83 3
    case h2 => exact fun j u hj => pw_cell_below (below_alloc (Below.refl _ _) _) (HO.out.cells (g := r) rfl j u hj)
    case h3 => simp only [maxLen]; omega
    case h4 => omega
    case h5 => exact (below_alloc (Below.refl w.heap.size w) (.cells #[] 83 (0, 0))).size
    intro v1 w1 hown hg hnil hat
    have HB := Aside0.mk ((below_alloc (Below.refl w.heap.size w) (.cells #[] 83 (0, 0))).grown hg (below_alloc (Below.refl w.heap.size w) (.cells #[] 83 (0, 0))).size (own_base (own_empty w 83 3)))
    obtain ⟨A1, d1, rfl⟩ := own_slice hown
    have HW := Aside0.mk hown
    clear hown hg hnil hat hq
    go_wp2
    go_ret
    exact ⟨_, rfl, HW.out, HB.out⟩
set_option maxHeartbeats 4000000 in
set_option maxRecDepth 100000 in
theorem copy_calls (b g : Nat) (me : Int) (v : Value) (l : List Rob) (w : World) (hD : Dk w b g me v l) (hl : l.length ≤ 1000000) :
    Calls Tryd.prog 16 #[.pointer (some ⟨g, 0, none⟩)] w fun e w' => ∃ (g1 : Nat) (v1 : Value), e = .returned (.pointer (some ⟨g1, 0, none⟩)) ∧ Dk w' w.heap.size g1 me v1 l ∧ Below w.heap.size w w' := by
  obtain ⟨A, c, rfl⟩ := hD.slice
  have HD := Aside0.mk hD
  clear hD
  go_enter Tryd.func16, Tryd.ntmps16
  go_wp2_with fail
  have toS : Aside0 (∀ w', Below w.heap.size w w' → (fun w' => w'.cell? ⟨g, 0, none⟩ = some (.int .i64 me) ∧ w'.cell? ⟨g, 1, none⟩ = some (.slice A l.length c) ∧ Below w.heap.size w w') w') := ⟨fun w' h => ⟨(HD.out.below h).c0, (HD.out.below h).c1, h⟩⟩
  have HI0 := Aside0.mk (below_drew (Below.refl w.heap.size w))
  have hS := toS.out _ HI0.out
  go_region_held3 (fun w' => w'.cell? ⟨g, 0, none⟩ = some (.int .i64 me) ∧ w'.cell? ⟨g, 1, none⟩ = some (.slice A l.length c) ∧ Below w.heap.size w w') (first | assumption | exact toS.out _ HI.out | exact toS.out _ (below_alloc HI.out _)) (first
    | (go_split_ands; go_at_call 51; (with_reducible refine (clone_calls b (.slice A l.length c) l _ ?c1 hl).mono ?_); (case c1 => exact (HD.out.below (by assumption)).own); rintro e w6 ⟨v1, rfl, ho, hb⟩; obtain ⟨A1, d1, rfl⟩ := own_slice ho; have HO := Aside0.mk ho; have HI := Aside0.mk (below_step (by assumption) hb); clear hb ho))
  go_wp2
  go_ret
  exact ⟨_, _, rfl, ⟨blk_new _ _, pw_own_below HO.out (below_alloc (Below.refl _ _) _), below_size HI.out⟩, below_alloc HI.out _⟩
end Go.Proofs.YtdgbfaflepiagaaDoor.Seam
