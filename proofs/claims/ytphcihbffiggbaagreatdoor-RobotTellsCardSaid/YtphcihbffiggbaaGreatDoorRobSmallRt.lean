/- RobotTells: the documented examples: taquinlaw22.small returns true. -/
import Derived.Test.YtphcihbffiggbaaGreatDoorMem
import Derived.Test.YtphcihbffiggbaaGreatDoorPRtx5
import Derived.Test.YtphcihbffiggbaaGreatDoorPRtx3
import Derived.Test.YtphcihbffiggbaaGreatDoorPRtx4
namespace Go.Proofs.YtphcihbffiggbaaGreatDoor.RobSmallRt
open Go.RowKit Go.Proofs.YtphcihbffiggbaaGreatDoor.PRt Go.Proofs.YtphcihbffiggbaaGreatDoor.Opens Go.Proofs.YtphcihbffiggbaaGreatDoorW.PrintWords Go.Proofs.YtphcihbffiggbaaGreatDoorW.PrintLast Go.Proofs.YtphcihbffiggbaaGreatDoorW.PrintMore
set_option linter.unusedVariables false
set_option linter.unusedSimpArgs false
theorem reads {e : TypeId} {W' : World} {base : Nat} {ok : Nat → Prop} {v : Value} {xs : List Int} (h : Kd.R (Kd.int .i64) e W' base ok v xs) : ∃ A c, v = .slice A xs.length c ∧ xs.length ≤ c ∧ Kd.C (Kd.int .i64) W' A xs.length xs := Kd.R_reads h
theorem readsQ {e : TypeId} {W' : World} {base : Nat} {ok : Nat → Prop} {v : Value} {xs : List Int} (h : Kd.Q (Kd.int .i64) e W' base ok v xs) : ∃ A c, v = .slice A xs.length c ∧ xs.length ≤ c ∧ Kd.C (Kd.int .i64) W' A xs.length xs := by
  obtain ⟨A, c, e1, e2, hf⟩ := Kd.Q_V (base' := base) h
  exact ⟨A, c, e1, e2, Kd.F_now hf⟩
theorem sz (w : World) (o : Obj) : (w.alloc o).heap.size = w.heap.size + 1 := by simp
theorem szd (w : World) : w.drew.heap.size = w.heap.size := rfl
theorem cOf {e : TypeId} {W' : World} {base c : Nat} {ok : Nat → Prop} {A : Option Addr} {xs : List Int} (_ : xs.length ≤ c) (h : Kd.R (Kd.int .i64) e W' base ok (.slice A xs.length c) xs) : Kd.C (Kd.int .i64) W' A xs.length xs := by
  obtain ⟨A', c', he, _, hc⟩ := Kd.R_reads h
  injection he with h1
  rw [h1]; exact hc
theorem none_ (W' : World) (A : Option Addr) : Kd.C (Kd.int .i64) W' A ([] : List Int).length [] := ⟨rfl, by simp, fun h => absurd h (Nat.lt_irrefl 0)⟩
theorem lit_ (W : World) (t : TypeId) (l : List Int) (hl : l.length ≤ 9223372036854775807) (g : Nat) (hg : g = W.heap.size) : Kd.C (Kd.int .i64) (W.alloc (.cells (l.map (Value.int .i64)).toArray t)) (some ⟨g, 0, none⟩) l.length l := by
  subst hg
  exact Kd.C_of_reads (d := (0 : Int)) ⟨rfl, hl, fun _ => ⟨_, rfl, fun j hj => by
    rw [add_plain, blk_cell (blk_new W _) j]
    simp [hj]⟩⟩
structure J (w w1 : World) (A3 : Option Addr) (c3 : Nat) (kd : List Int) (A4 : Option Addr) (c4 : Nat) (ot : List Int) (u : World) : Prop where
  bel : Below w.heap.size w u
  blk : u.heap[w1.heap.size]? = some (.cells #[.int .i64 5, .int .i64 1, .int .i64 1, .slice A3 kd.length c3, .slice A4 ot.length c4] 24 (0, 0))
  r3 : Kd.R (Kd.int .i64) 3 u w.heap.size (fun _ => True) (.slice A3 kd.length c3) kd
  r4 : Kd.R (Kd.int .i64) 3 u w.heap.size (fun _ => True) (.slice A4 ot.length c4) ot
section
variable {w w1 u v : World} {A3 A4 : Option Addr} {c3 c4 : Nat} {kd ot : List Int}
theorem J.below (h : J w w1 A3 c3 kd A4 c4 ot u) (hb : Below u.heap.size u v) : J w w1 A3 c3 kd A4 c4 ot v := ⟨below_then h.bel (below_size h.bel) hb, blk_below h.blk hb, Kd.R_below h.r3 hb, Kd.R_below h.r4 hb⟩
theorem J.alloc (h : J w w1 A3 c3 kd A4 c4 ot u) (o : Obj) : J w w1 A3 c3 kd A4 c4 ot (u.alloc o) := h.below (below_alloc (Below.refl _ _) o)
theorem J.set (h : J w w1 A3 c3 kd A4 c4 ot u) {g : Nat} {cells : Array Value} (hg : u.heap[g]? = some (.cells cells 26 (0, 0))) (hw : w.heap.size ≤ g) (j : Nat) (x : Value) : J w w1 A3 c3 kd A4 c4 ot (u.setCell ⟨g, j, none⟩ x) :=
  ⟨h.bel.setCell (p := ⟨g, j, none⟩) hw x, blk_far h.blk (p := ⟨g, j, none⟩) (blk_ne h.blk hg (by decide)) x, Kd.R_set h.r3 hg (by decide) j x, Kd.R_set h.r4 hg (by decide) j x⟩
theorem J.cells (h : J w w1 A3 c3 kd A4 c4 ot u) : u.cell? ⟨w1.heap.size, 0, none⟩ = some (.int .i64 5) ∧ u.cell? ⟨w1.heap.size, 1, none⟩ = some (.int .i64 1) ∧ u.cell? ⟨w1.heap.size, 2, none⟩ = some (.int .i64 1) ∧ u.cell? ⟨w1.heap.size, 3, none⟩ = some (.slice A3 kd.length c3) ∧ u.cell? ⟨w1.heap.size, 4, none⟩ = some (.slice A4 ot.length c4) :=
  ⟨(blk_cell h.blk 0).trans rfl, (blk_cell h.blk 1).trans rfl, (blk_cell h.blk 2).trans rfl, (blk_cell h.blk 3).trans rfl, (blk_cell h.blk 4).trans rfl⟩
end
set_option maxHeartbeats 8000000 in
set_option maxRecDepth 100000 in
theorem walk (kd ot : List Int) (w : World) (hrow : taquinlaw22_row.f 30 = some (5, 1, 1, kd, ot)) (hh : robot_Hear.f 30 5 1 1 kd ot 0 [] [1, 7, 1] = some (0, [1, 7, 1], 0))
    (hway : robot_Way.f 30 5 1 1 kd ot 0 [1, 7, 1] = some [0, 1, 2]) (hd1 : robot_Did.f 30 5 1 1 kd ot 0 [1, 7, 1] 1 true = some (1, [7, 1])) (hd2 : robot_Did.f 30 5 1 1 kd ot 1 [7, 1] 7 false = some (1, [7, 1]))
    (hh2 : robot_Hear.f 30 5 1 1 kd ot 0 [1, 7, 1] [0, 0, 0, 0, 0] = some (0, [1, 7, 1], 6)) (hh3 : robot_Hear.f 30 5 1 1 kd ot 0 [1, 7, 1] [3] = some (0, [1, 7, 1], 14)) (hright : robot_Right.f 30 5 1 1 kd ot 1 [7, 1] = some true) :
    Calls Tryz.prog 4 #[] w fun e w' => e = .returned (.bool true) ∧ Below w.heap.size w w' := by
  have HH := Aside0.mk hh
  have HX := Aside0.mk (And.intro hway (And.intro hd1 (And.intro hd2 (And.intro hh2 (And.intro hh3 hright)))))
  clear hh hway hd1 hd2 hh2 hh3 hright
  go_enter Tryz.func4, Tryz.ntmps4
  go_wp2_with fail
  (with_reducible refine (taquinlaw22_row.calls 30 5 1 1 kd ot _ hrow).mono ?_)
  rintro e w1 ⟨v3, v4, rfl, ho3, ho4, hb⟩
  obtain ⟨A3, c3, rfl, h3, _⟩ := reads ho3
  obtain ⟨A4, c4, rfl, h4, _⟩ := reads ho4
  have HJ : Aside0 (J w w1 A3 c3 kd A4 c4 ot (w1.alloc (.cells #[.int .i64 5, .int .i64 1, .int .i64 1, .slice A3 kd.length c3, .slice A4 ot.length c4] 24))) :=
    ⟨⟨below_alloc hb _, blk_new _ _, Kd.R_mono (Kd.R_alloc ho3 _) (fun _ _ => trivial), Kd.R_mono (Kd.R_alloc ho4 _) (fun _ _ => trivial)⟩⟩
  clear hb ho3 ho4 hrow
  go_wp2_with fail
  generalize hW : w1.alloc _ = w2 at HJ ⊢
  clear hW
  have toS : Aside0 (∀ w', J w w1 A3 c3 kd A4 c4 ot w' → (fun w' => (w'.cell? ⟨w1.heap.size, 0, none⟩ = some (.int .i64 5) ∧ w'.cell? ⟨w1.heap.size, 1, none⟩ = some (.int .i64 1) ∧ w'.cell? ⟨w1.heap.size, 2, none⟩ = some (.int .i64 1) ∧ w'.cell? ⟨w1.heap.size, 3, none⟩ = some (.slice A3 kd.length c3) ∧ w'.cell? ⟨w1.heap.size, 4, none⟩ = some (.slice A4 ot.length c4)) ∧ J w w1 A3 c3 kd A4 c4 ot w') w') := ⟨fun w' h => ⟨h.cells, h⟩⟩
  have HJ2 := Aside0.mk (HJ.out.below (below_drew (Below.refl _ _)))
  have hS := toS.out _ HJ2.out
  refine Code.wp_mono (Q := fun e a w' => e = .normal ∧ ∃ (g : Nat) (A : Option Addr) (d : Nat) (x15 x18 : Value), 3 ≤ d ∧ a = ⟨#[.bool false, .pointer (some ⟨w1.heap.size, 0, none⟩), .int .i64 1, .pointer (some ⟨g, 0, none⟩), .int .i64 0, undef, undef, undef, undef, undef, undef, undef, .agg #[.int .i64 5, .int .i64 1, .int .i64 1, .slice A3 kd.length c3, .slice A4 ot.length c4], .tuple #[.agg #[.int .i64 0, .slice A 3 d], .int .i64 0], .agg #[.int .i64 5, .int .i64 1, .int .i64 1, .slice A3 kd.length c3, .slice A4 ot.length c4], x15, .int .i64 1, .int .i64 1, x18, .tuple #[.agg #[.int .i64 0, .slice A 3 d], .int .i64 0], .agg #[.int .i64 0, .slice A 3 d], .int .i64 0, undef, undef, undef, undef, undef, undef, undef, undef, undef, undef, undef, undef, undef, undef, undef, undef, undef, undef, undef, undef, undef, undef, undef, undef, undef, undef, undef, undef, undef, undef, undef, undef, undef, undef, undef, undef, undef, undef, undef, undef, undef, undef, undef, undef, undef, undef, undef, undef, undef, undef, undef, undef, undef, undef, undef, undef, undef, undef, undef, undef, undef, undef], []⟩ ∧ w.heap.size ≤ g ∧ J w w1 A3 c3 kd A4 c4 ot w' ∧ w'.heap[g]? = some (.cells #[.int .i64 0, .slice A 3 d] 26 (0, 0)) ∧ Kd.R (Kd.int .i64) 3 w' w.heap.size (fun _ => True) (.slice A 3 d) [1, 7, 1]) (fun e a w' h => ?_) ?_
  rotate_left
  · go_region_held3 (fun w' => (w'.cell? ⟨w1.heap.size, 0, none⟩ = some (.int .i64 5) ∧ w'.cell? ⟨w1.heap.size, 1, none⟩ = some (.int .i64 1) ∧ w'.cell? ⟨w1.heap.size, 2, none⟩ = some (.int .i64 1) ∧ w'.cell? ⟨w1.heap.size, 3, none⟩ = some (.slice A3 kd.length c3) ∧ w'.cell? ⟨w1.heap.size, 4, none⟩ = some (.slice A4 ot.length c4)) ∧ J w w1 A3 c3 kd A4 c4 ot w') (first | assumption | exact toS.out _ HI.out | exact toS.out _ HI2.out | (go_split_ands; exact toS.out _ (J.alloc (by assumption) _)) | exact toS.out _ (J.alloc HI2.out _) | exact toS.out _ (J.set (J.set HI2.out HZ2.out (by have a := below_size HJ.out.bel; have b := below_size HI.out.bel; omega) 0 _) (blk_set HZ2.out 0 _) (by have a := below_size HJ.out.bel; have b := below_size HI.out.bel; omega) 1 _)) (first
      | (go_split_ands; go_at_call 11; (with_reducible refine (robot_New.calls 0 0 [] _ rfl).mono ?_); rintro e w6 ⟨v, rfl, ho, hb⟩; obtain ⟨B0, d0, rfl, g0, _⟩ := reads ho; (try simp only [List.length_nil]); have HI := Aside0.mk (J.below (by assumption) hb); have HZS := Aside0.mk hb.size; (first | have HRW := Aside0.mk (Kd.C_below (Kd.C_drew (lit_ _ 3 [1, 7, 1] (by simp) _ rfl)) hb) | have HRW := Aside0.mk (Kd.C_below (Kd.C_drew (Kd.C_alloc (lit_ _ 3 [1, 7, 1] (by simp) _ rfl) _)) hb) | skip); (try simp only [sz, szd] at HRW); (first | have HZ := Aside0.mk (blk_below (blk_drew (blk_new _ (.cells #[.int .i64 0, .slice none 0 0] 26 (0, 0)))) hb) | have HZ := Aside0.mk (blk_below (blk_drew (blk_alloc (blk_new _ (.cells #[.int .i64 0, .slice none 0 0] 26 (0, 0))) _)) hb) | skip); (try simp only [sz, szd] at HZ); clear hb)
      | (go_split_ands; go_at_call 12; refine (robot_Hear.calls 30 5 1 1 A3 c3 kd A4 c4 ot 0 B0 d0 [] _ 3 [1, 7, 1] 0 [1, 7, 1] 0 _ ?c1 h3 ?c2 h4 (none_ _ _) (Nat.zero_le _) ?c3 (by simp) HH.out).mono ?_; (case c1 => exact cOf h3 (J.r3 (by assumption))); (case c2 => exact cOf h4 (J.r4 (by assumption))); (case c3 => first | exact HRW.out | exact (Kd.C_alloc HRW.out _) | exact (lit_ _ 3 [1, 7, 1] (by simp) _ (by simp only [sz, szd])) | exact (Kd.C_alloc (lit_ _ 3 [1, 7, 1] (by simp) _ (by simp only [sz, szd])) _)); rintro e w7 ⟨v, rfl, ho, hb⟩; obtain ⟨A, d, rfl, hd3, _⟩ := reads ho; have HI2 := Aside0.mk (J.below (by assumption) hb); have HO := Aside0.mk (Kd.R_lower ho (below_size (J.bel (by assumption)))); have HD := Aside0.mk hd3; (first | have HZ2 := Aside0.mk (blk_below (blk_new _ (.cells #[.int .i64 0, .slice none 0 0] 26 (0, 0))) hb) | have HZ2 := Aside0.mk (blk_below (blk_alloc (blk_new _ (.cells #[.int .i64 0, .slice none 0 0] 26 (0, 0))) _) hb) | have HZ2 := Aside0.mk (blk_below HZ.out hb) | have HZ2 := Aside0.mk (blk_below (blk_alloc HZ.out _) hb) | skip); (try simp only [sz, szd] at HZ2); (try (have z0 := (blk_cell HZ2.out 0).trans rfl; have z1 := (blk_cell HZ2.out 1).trans rfl; have f0 := blk_frozen HZ2.out 0; have f1 := blk_frozen HZ2.out 1)); clear hb ho))
    all_goals
      refine ⟨rfl, _, A, d, _, _, HD.out, rfl, ?_, ?_, ?_, ?_⟩
      · have a := below_size HJ.out.bel
        have b := below_size HI.out.bel
        have c := below_size HI2.out.bel
        omega
      · first
          | exact J.alloc HI2.out _
          | exact J.set (J.set HI2.out HZ2.out (by have a := below_size HJ.out.bel; have b := below_size HI.out.bel; omega) 0 _) (blk_set HZ2.out 0 _) (by have a := below_size HJ.out.bel; have b := below_size HI.out.bel; omega) 1 _
      · first
          | exact blk_new _ _
          | exact (blk_set (blk_set HZ2.out 0 _) 1 _).trans rfl
      · first
          | exact Kd.R_alloc HO.out _
          | exact Kd.R_set (Kd.R_set HO.out HZ2.out (by decide) 0 _) (blk_set HZ2.out 0 _) (by decide) 1 _
  obtain ⟨rfl, g, A, d, x15, x18, hd3, rfl, hg, hj, hbg, hr⟩ := h
  have HS : Aside0 (St w w' [(⟨g, 0, none⟩, .int .i64 0), (⟨g, 1, none⟩, .slice A 3 d), (⟨w1.heap.size, 0, none⟩, .int .i64 5), (⟨w1.heap.size, 1, none⟩, .int .i64 1), (⟨w1.heap.size, 2, none⟩, .int .i64 1), (⟨w1.heap.size, 3, none⟩, .slice A3 kd.length c3), (⟨w1.heap.size, 4, none⟩, .slice A4 ot.length c4)] [(A, [1, 7, 1]), (A3, kd), (A4, ot)]) :=
    ⟨⟨hj.bel, ⟨(blk_cell hbg 0).trans rfl, (blk_cell hbg 1).trans rfl, hj.cells.1, hj.cells.2.1, hj.cells.2.2.1, hj.cells.2.2.2.1, hj.cells.2.2.2.2, trivial⟩, cOf (xs := [1, 7, 1]) hd3 hr, cOf h3 hj.r3, cOf h4 hj.r4, trivial⟩⟩
  clear hj hbg hr hg toS hS HJ HJ2 HH
  obtain ⟨q0, q1, k0, k1, k2, k3, k4, _⟩ := HS.out.cells
  go_wp2_with fail
  refine (robot_Way.calls 30 5 1 1 A3 c3 kd A4 c4 ot 0 A d [1, 7, 1] [0, 1, 2] _ HS.out.rows.t.g h3 HS.out.rows.t.t.g h4 HS.out.rows.g hd3 HX.out.1).mono ?_
  rintro e w5 ⟨v, rfl, ho, hb⟩
  obtain ⟨A5, d5, rfl, hd5, ho⟩ := reads ho
  replace HS := Aside0.mk ((HS.out.below hb).row ho)
  clear hb ho q0 q1 k0 k1 k2 k3 k4
  obtain ⟨q0, q1, k0, k1, k2, k3, k4, _⟩ := HS.out.cells
  go_wp2_with fail
  refine (robot_Did.calls 30 5 1 1 A3 c3 kd A4 c4 ot 0 A d [1, 7, 1] 1 true 1 [7, 1] _ HS.out.rows.t.t.g h3 HS.out.rows.t.t.t.g h4 HS.out.rows.t.g hd3 HX.out.2.1).mono ?_
  rintro e w6 ⟨v, rfl, ho, hb⟩
  obtain ⟨A6, d6, rfl, hd6, ho⟩ := readsQ ho
  replace HS := Aside0.mk (((HS.out.below hb).row ho).new2 w6.heap.size rfl (.int .i64 1) (.slice A6 2 d6) 26)
  clear hb ho q0 q1 k0 k1 k2 k3 k4
  obtain ⟨p0, p1, q0, q1, k0, k1, k2, k3, k4, _⟩ := HS.out.cells
  go_wp2_with fail
  refine (robot_Did.calls 30 5 1 1 A3 c3 kd A4 c4 ot 1 A6 d6 [7, 1] 7 false 1 [7, 1] _ HS.out.rows.t.t.t.g h3 HS.out.rows.t.t.t.t.g h4 HS.out.rows.g hd6 HX.out.2.2.1).mono ?_
  rintro e w7 ⟨v, rfl, ho, hb⟩
  obtain ⟨A7, d7, rfl, hd7, ho⟩ := readsQ ho
  replace HS := Aside0.mk (((HS.out.below hb).row ho).new2 w7.heap.size rfl (.int .i64 1) (.slice A7 2 d7) 26)
  clear hb ho p0 p1 q0 q1 k0 k1 k2 k3 k4
  obtain ⟨r0, r1, p0, p1, q0, q1, k0, k1, k2, k3, k4, _⟩ := HS.out.cells
  go_wp2_with fail
  replace HS := Aside0.mk (HS.out.alloc (.cells ([0, 0, 0, 0, 0].map (Value.int .i64)).toArray 3))
  refine (robot_Hear.calls 30 5 1 1 A3 c3 kd A4 c4 ot 0 A d [1, 7, 1] _ 5 [0, 0, 0, 0, 0] 0 [1, 7, 1] 6 _ HS.out.rows.t.t.t.t.g h3 HS.out.rows.t.t.t.t.t.g h4 HS.out.rows.t.t.t.g hd3 (lit_ _ 3 [0, 0, 0, 0, 0] (by simp) _ (by simp only [sz])) (by simp) HX.out.2.2.2.1).mono ?_
  rintro e w8 ⟨v, rfl, ho, hb⟩
  obtain ⟨A8, d8, rfl, hd8, ho⟩ := reads ho
  replace HS := Aside0.mk ((HS.out.below hb).new2 w8.heap.size rfl (.int .i64 0) (.slice A8 3 d8) 26)
  clear hb ho r0 r1 p0 p1 q0 q1 k0 k1 k2 k3 k4
  obtain ⟨_, _, r0, r1, p0, p1, q0, q1, k0, k1, k2, k3, k4, _⟩ := HS.out.cells
  go_wp2_with fail
  replace HS := Aside0.mk (HS.out.alloc (.cells ([3].map (Value.int .i64)).toArray 3))
  refine (robot_Hear.calls 30 5 1 1 A3 c3 kd A4 c4 ot 0 A d [1, 7, 1] _ 1 [3] 0 [1, 7, 1] 14 _ HS.out.rows.t.t.t.t.g h3 HS.out.rows.t.t.t.t.t.g h4 HS.out.rows.t.t.t.g hd3 (lit_ _ 3 [3] (by simp) _ (by simp only [sz])) (by simp) HX.out.2.2.2.2.1).mono ?_
  rintro e w9 ⟨v, rfl, ho, hb⟩
  obtain ⟨A9, d9, rfl, hd9, ho⟩ := reads ho
  replace HS := Aside0.mk ((HS.out.below hb).new2 w9.heap.size rfl (.int .i64 0) (.slice A9 3 d9) 26)
  clear hb ho r0 r1 p0 p1 q0 q1 k0 k1 k2 k3 k4
  obtain ⟨_, _, _, _, r0, r1, p0, p1, q0, q1, k0, k1, k2, k3, k4, _⟩ := HS.out.cells
  go_wp2_with fail
  replace HS := Aside0.mk (HS.out.alloc (.cells ([0, 1, 2].map (Value.int .i64)).toArray 3))
  refine (taquinref07_Same.calls 30 A5 d5 [0, 1, 2] _ 3 [0, 1, 2] true _ HS.out.rows.t.t.g hd5 (lit_ _ 3 [0, 1, 2] (by simp) _ (by simp only [sz])) (by simp) (by decide +kernel)).mono ?_
  rintro e w10 ⟨rfl, hb⟩
  replace HS := Aside0.mk (HS.out.drawn hb)
  clear hb r0 r1 p0 p1 q0 q1 k0 k1 k2 k3 k4
  obtain ⟨_, _, _, _, r0, r1, p0, p1, q0, q1, k0, k1, k2, k3, k4, _⟩ := HS.out.cells
  go_wp2_with fail
  refine (robot_Next.calls 0 A d [1, 7, 1] 1 _ HS.out.rows.t.t.t.g hd3 (by decide +kernel)).mono ?_
  rintro e w11 ⟨rfl, hb⟩
  replace HS := Aside0.mk (HS.out.below hb)
  clear hb r0 r1 p0 p1 q0 q1 k0 k1 k2 k3 k4
  obtain ⟨_, _, _, _, r0, r1, p0, p1, q0, q1, k0, k1, k2, k3, k4, _⟩ := HS.out.cells
  go_wp2_with fail
  replace HS := Aside0.mk (HS.out.alloc (.cells ([7, 1].map (Value.int .i64)).toArray 3))
  refine (taquinref07_Same.calls 30 A7 d7 [7, 1] _ 2 [7, 1] true _ HS.out.rows.g hd7 (lit_ _ 3 [7, 1] (by simp) _ (by simp only [sz])) (by simp) (by decide +kernel)).mono ?_
  rintro e w12 ⟨rfl, hb⟩
  replace HS := Aside0.mk (HS.out.drawn hb)
  clear hb r0 r1 p0 p1 q0 q1 k0 k1 k2 k3 k4
  obtain ⟨_, _, _, _, r0, r1, p0, p1, q0, q1, k0, k1, k2, k3, k4, _⟩ := HS.out.cells
  go_wp2_with fail
  refine (robot_Right.calls 30 5 1 1 A3 c3 kd A4 c4 ot 1 A7 d7 [7, 1] true _ HS.out.rows.t.t.t.t.g h3 HS.out.rows.t.t.t.t.t.g h4 HS.out.rows.g hd7 HX.out.2.2.2.2.2).mono ?_
  rintro e w13 ⟨rfl, hb⟩
  replace HS := Aside0.mk (HS.out.below hb)
  clear hb r0 r1 p0 p1 q0 q1 k0 k1 k2 k3 k4
  go_wp2
  go_ret
  exact ⟨rfl, HS.out.bel⟩
theorem holds (w : World) : Calls Tryz.prog 4 #[] w fun e w' => e = .returned (.bool true) ∧ Below w.heap.size w w' :=
  walk [1, 1, 1, 1, 1] [5, 5, 5, 5, 5] w (by decide +kernel) (by decide +kernel) (by decide +kernel) (by decide +kernel) (by decide +kernel) (by decide +kernel) (by decide +kernel) (by decide +kernel)
end Go.Proofs.YtphcihbffiggbaaGreatDoor.RobSmallRt
