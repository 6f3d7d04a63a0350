/- The law's small(): what it calls gives what it says. -/
import Derived.Test.YtdgbfaflepiagaaDoorSeamHSe
namespace Go.Proofs.YtdgbfaflepiagaaDoor.Seam
open Go.RowKit Go.Proofs.YtdgbfaflepiagaaDoorW.PrintWords Go.Proofs.YtdgbfaflepiagaaDoorW.PrintMore Go.Proofs.YtdgbfaflepiagaaDoor.PSe Go.Proofs.YtdgbfaflepiagaaDoor.WireMath Go.Proofs.YtdgbfaflepiagaaDoor.WireB
set_option linter.unusedVariables false
set_option linter.unusedSimpArgs false
theorem bools_lit (w : World) (l : List Bool) (hl : l.length ≤ 1000000) : bools_ (w.alloc (.cells (encs Value.bool l).toArray 4 (0, 0))) (some ⟨w.heap.size, 0, none⟩) l := by
  have h := Kd.R_of_own (enc := Value.bool) (h1 := fun _ => rfl) (ok := fun _ => True) (own_lit_of (enc := Value.bool) w w.heap.size 4 l (Nat.le_refl _) (by omega)) (fun _ _ => trivial)
  exact (Kd.R_reads' h).2.2
theorem bools_below {w w1 : World} {A : Option Addr} {l : List Bool} (h : bools_ w A l) (hb : Below w.heap.size w w1) : bools_ w1 A l := Kd.C_below h hb
theorem new_one (me : Int) (x : Bool) (w : World) (hm : (me != 0) = false ∨ ((me != 0) = true ∧ (me != 1) = false)) :
    Calls Tryd.prog 10 #[.int .i64 me, .slice (some ⟨w.heap.size, 0, none⟩) 1 1] (w.alloc (.cells #[.bool x] 4 (0, 0))) fun e w' => ∃ (g : Nat) (v : Value), e = .returned (.pointer (some ⟨g, 0, none⟩)) ∧ Dk w' (w.alloc (.cells #[.bool x] 4 (0, 0))).heap.size g me v [rob0 x] ∧ Below (w.alloc (.cells #[.bool x] 4 (0, 0))).heap.size (w.alloc (.cells #[.bool x] 4 (0, 0))) w' :=
  new_yes me (some ⟨w.heap.size, 0, none⟩) 1 [x] _ (bools_lit w [x] (by simp)) hm (by simp)
set_option maxHeartbeats 16000000 in
set_option maxRecDepth 100000 in
theorem small_calls (w : World) : Calls Tryd.prog 8 #[] w fun e w' => e = .returned (.bool true) ∧ Below w.heap.size w w' := by
  have o1 : Aside0 (offer [⟨1, 0, false⟩] 0 = ([⟨2, 1, false⟩], (0, 0, 1), 0)) := ⟨by decide +kernel⟩
  have o2 : Aside0 (hear [⟨0, 0, false⟩] (0, 0, 1) true = ([⟨1, 1, false⟩], (1, 0, 1), true, 0)) := ⟨by decide +kernel⟩
  have o3 : Aside0 (hear [⟨1, 1, false⟩] (0, 0, 1) true = ([⟨1, 1, false⟩], (1, 0, 1), true, 0)) := ⟨by decide +kernel⟩
  have o4 : Aside0 (hear [⟨2, 1, false⟩] (1, 0, 1) true = ([⟨0, 1, false⟩], (0, 0, 0), false, 0)) := ⟨by decide +kernel⟩
  have o5 : Aside0 (offer [⟨1, 1, false⟩] 0 = ([⟨2, 2, false⟩], (0, 0, 2), 0)) := ⟨by decide +kernel⟩
  have o6 : Aside0 (hear [⟨2, 2, false⟩] (0, 0, 1) true = ([⟨2, 2, false⟩], (0, 0, 0), false, 0)) := ⟨by decide +kernel⟩
  have a1 : Aside0 (at_ [⟨2, 1, false⟩] 0 = some ⟨2, 1, false⟩) := ⟨by decide +kernel⟩
  have a2 : Aside0 (at_ [⟨1, 1, false⟩] 0 = some ⟨1, 1, false⟩) := ⟨by decide +kernel⟩
  have a3 : Aside0 (at_ [⟨0, 1, false⟩] 0 = some ⟨0, 1, false⟩) := ⟨by decide +kernel⟩
  go_enter Tryd.func8, Tryd.ntmps8
  go_wp2_with fail
  (with_reducible refine (new_one 0 true w (.inl rfl)).mono ?_)
  rintro e w1 ⟨ga, va, rfl, hd, hb⟩
  have HM1 := Aside0.mk (((M.start w).on (below_alloc (Below.refl _ _) _)).add hd hb)
  clear hd hb
  go_wp2_with fail
  (with_reducible refine (new_one 1 false w1 (.inr ⟨rfl, rfl⟩)).mono ?_)
  rintro e w2 ⟨gb, vb, rfl, hd, hb⟩
  have HM2 : Aside0 (M w w2 [⟨gb, 1, vb, [⟨0, 0, false⟩]⟩, ⟨ga, 0, va, [⟨1, 0, false⟩]⟩] []) := ⟨((HM1.out.on (below_alloc (Below.refl _ _) _)).add hd hb)⟩
  clear hd hb HM1
  go_wp2_with fail
  (with_reducible refine (offer_calls w.heap.size ga 0 va [⟨1, 0, false⟩] 0 _ (HM2.out.dsk _ (List.mem_cons_of_mem _ List.mem_cons_self)) (by decide)).mono ?_)
  rintro e w3 ⟨rfl, hd, hg⟩
  rw [o1.out] at hd ⊢
  have HM3 := Aside0.mk (M.upd (xs := [⟨gb, 1, vb, [⟨0, 0, false⟩]⟩]) HM2.out hd hg)
  simp only [pass]
  clear hd hg HM2
  have HM4 := Aside0.mk (HM3.out.new #[.int .i64 0, .int .i64 0, .int .i64 1] 29 (by decide))
  clear HM3
  have zp0 := (blk_cell (HM4.out.blks _ (List.mem_cons_self)).1 0).trans rfl
  have zp1 := (blk_cell (HM4.out.blks _ (List.mem_cons_self)).1 1).trans rfl
  have zp2 := (blk_cell (HM4.out.blks _ (List.mem_cons_self)).1 2).trans rfl
  go_wp2_with fail
  (with_reducible refine (phase w.heap.size ga 0 va [⟨2, 1, false⟩] 0 _ (HM4.out.dsk _ (List.mem_cons_of_mem _ List.mem_cons_self)) (by decide)).mono ?_)
  rintro e w' ⟨rfl, rfl⟩
  rw [a1.out]
  go_wp2_with fail
  (with_reducible refine (hear_calls w.heap.size gb 1 vb [⟨0, 0, false⟩] 0 0 1 true _ (HM4.out.dsk _ List.mem_cons_self) (by decide)).mono ?_)
  rintro e w5 ⟨rfl, hd, hg⟩
  rw [o2.out] at hd ⊢
  have HM5 := Aside0.mk (M.upd (xs := ([] : List Dsk)) HM4.out hd hg)
  simp only [pass]
  clear zp0 zp1 zp2
  clear hd hg HM4
  have HM6 := Aside0.mk (HM5.out.new #[.int .i64 1, .int .i64 0, .int .i64 1] 29 (by decide))
  clear HM5
  have zq0 := (blk_cell (HM6.out.blks _ (List.mem_cons_self)).1 0).trans rfl
  have zq1 := (blk_cell (HM6.out.blks _ (List.mem_cons_self)).1 1).trans rfl
  have zq2 := (blk_cell (HM6.out.blks _ (List.mem_cons_self)).1 2).trans rfl
  have zp0 := (blk_cell (HM6.out.blks _ (List.mem_cons_of_mem _ (List.mem_cons_self))).1 0).trans rfl
  have zp1 := (blk_cell (HM6.out.blks _ (List.mem_cons_of_mem _ (List.mem_cons_self))).1 1).trans rfl
  have zp2 := (blk_cell (HM6.out.blks _ (List.mem_cons_of_mem _ (List.mem_cons_self))).1 2).trans rfl
  go_wp2_with fail
  (with_reducible refine (hear_calls w.heap.size gb 1 vb [⟨1, 1, false⟩] 0 0 1 true _ (HM6.out.dsk _ List.mem_cons_self) (by decide)).mono ?_)
  rintro e w7 ⟨rfl, hd, hg⟩
  rw [o3.out] at hd ⊢
  have HM7 := Aside0.mk (M.upd (xs := ([] : List Dsk)) HM6.out hd hg)
  simp only [pass]
  clear zq0 zq1 zq2 zp0 zp1 zp2
  clear hd hg HM6
  have HM8 := Aside0.mk (HM7.out.new #[.int .i64 1, .int .i64 0, .int .i64 1] 29 (by decide))
  clear HM7
  have zr0 := (blk_cell (HM8.out.blks _ (List.mem_cons_self)).1 0).trans rfl
  have zr1 := (blk_cell (HM8.out.blks _ (List.mem_cons_self)).1 1).trans rfl
  have zr2 := (blk_cell (HM8.out.blks _ (List.mem_cons_self)).1 2).trans rfl
  have zq0 := (blk_cell (HM8.out.blks _ (List.mem_cons_of_mem _ (List.mem_cons_self))).1 0).trans rfl
  have zq1 := (blk_cell (HM8.out.blks _ (List.mem_cons_of_mem _ (List.mem_cons_self))).1 1).trans rfl
  have zq2 := (blk_cell (HM8.out.blks _ (List.mem_cons_of_mem _ (List.mem_cons_self))).1 2).trans rfl
  have zp0 := (blk_cell (HM8.out.blks _ (List.mem_cons_of_mem _ (List.mem_cons_of_mem _ (List.mem_cons_self)))).1 0).trans rfl
  have zp1 := (blk_cell (HM8.out.blks _ (List.mem_cons_of_mem _ (List.mem_cons_of_mem _ (List.mem_cons_self)))).1 1).trans rfl
  have zp2 := (blk_cell (HM8.out.blks _ (List.mem_cons_of_mem _ (List.mem_cons_of_mem _ (List.mem_cons_self)))).1 2).trans rfl
  go_wp2_with fail
  (with_reducible refine (phase w.heap.size gb 1 vb [⟨1, 1, false⟩] 0 _ (HM8.out.dsk _ List.mem_cons_self) (by decide)).mono ?_)
  rintro e w' ⟨rfl, rfl⟩
  rw [a2.out]
  go_wp2_with fail
  (with_reducible refine (hear_calls w.heap.size ga 0 va [⟨2, 1, false⟩] 1 0 1 true _ (HM8.out.dsk _ (List.mem_cons_of_mem _ List.mem_cons_self)) (by decide)).mono ?_)
  rintro e w9 ⟨rfl, hd, hg⟩
  rw [o4.out] at hd ⊢
  have HM9 := Aside0.mk (M.upd (xs := [⟨gb, 1, vb, [⟨1, 1, false⟩]⟩]) HM8.out hd hg)
  simp only [pass]
  clear zr0 zr1 zr2 zq0 zq1 zq2 zp0 zp1 zp2
  clear hd hg HM8
  have HM10 := Aside0.mk (HM9.out.new #[.int .i64 0, .int .i64 0, .int .i64 0] 29 (by decide))
  clear HM9
  have zs0 := (blk_cell (HM10.out.blks _ (List.mem_cons_self)).1 0).trans rfl
  have zs1 := (blk_cell (HM10.out.blks _ (List.mem_cons_self)).1 1).trans rfl
  have zs2 := (blk_cell (HM10.out.blks _ (List.mem_cons_self)).1 2).trans rfl
  have zr0 := (blk_cell (HM10.out.blks _ (List.mem_cons_of_mem _ (List.mem_cons_self))).1 0).trans rfl
  have zr1 := (blk_cell (HM10.out.blks _ (List.mem_cons_of_mem _ (List.mem_cons_self))).1 1).trans rfl
  have zr2 := (blk_cell (HM10.out.blks _ (List.mem_cons_of_mem _ (List.mem_cons_self))).1 2).trans rfl
  have zq0 := (blk_cell (HM10.out.blks _ (List.mem_cons_of_mem _ (List.mem_cons_of_mem _ (List.mem_cons_self)))).1 0).trans rfl
  have zq1 := (blk_cell (HM10.out.blks _ (List.mem_cons_of_mem _ (List.mem_cons_of_mem _ (List.mem_cons_self)))).1 1).trans rfl
  have zq2 := (blk_cell (HM10.out.blks _ (List.mem_cons_of_mem _ (List.mem_cons_of_mem _ (List.mem_cons_self)))).1 2).trans rfl
  have zp0 := (blk_cell (HM10.out.blks _ (List.mem_cons_of_mem _ (List.mem_cons_of_mem _ (List.mem_cons_of_mem _ (List.mem_cons_self))))).1 0).trans rfl
  have zp1 := (blk_cell (HM10.out.blks _ (List.mem_cons_of_mem _ (List.mem_cons_of_mem _ (List.mem_cons_of_mem _ (List.mem_cons_self))))).1 1).trans rfl
  have zp2 := (blk_cell (HM10.out.blks _ (List.mem_cons_of_mem _ (List.mem_cons_of_mem _ (List.mem_cons_of_mem _ (List.mem_cons_self))))).1 2).trans rfl
  go_wp2_with fail
  (with_reducible refine (phase w.heap.size ga 0 va [⟨0, 1, false⟩] 0 _ (HM10.out.dsk _ (List.mem_cons_of_mem _ List.mem_cons_self)) (by decide)).mono ?_)
  rintro e w' ⟨rfl, rfl⟩
  rw [a3.out]
  go_wp2_with fail
  (with_reducible refine (offer_calls w.heap.size gb 1 vb [⟨1, 1, false⟩] 0 _ (HM10.out.dsk _ List.mem_cons_self) (by decide)).mono ?_)
  rintro e w11 ⟨rfl, hd, hg⟩
  rw [o5.out] at hd ⊢
  have HM11 := Aside0.mk (M.upd (xs := ([] : List Dsk)) HM10.out hd hg)
  simp only [pass]
  clear zs0 zs1 zs2 zr0 zr1 zr2 zq0 zq1 zq2 zp0 zp1 zp2
  clear hd hg HM10
  have HM12 := Aside0.mk (HM11.out.new #[.int .i64 0, .int .i64 0, .int .i64 2] 29 (by decide))
  clear HM11
  have zt0 := (blk_cell (HM12.out.blks _ (List.mem_cons_self)).1 0).trans rfl
  have zt1 := (blk_cell (HM12.out.blks _ (List.mem_cons_self)).1 1).trans rfl
  have zt2 := (blk_cell (HM12.out.blks _ (List.mem_cons_self)).1 2).trans rfl
  have zs0 := (blk_cell (HM12.out.blks _ (List.mem_cons_of_mem _ (List.mem_cons_self))).1 0).trans rfl
  have zs1 := (blk_cell (HM12.out.blks _ (List.mem_cons_of_mem _ (List.mem_cons_self))).1 1).trans rfl
  have zs2 := (blk_cell (HM12.out.blks _ (List.mem_cons_of_mem _ (List.mem_cons_self))).1 2).trans rfl
  have zr0 := (blk_cell (HM12.out.blks _ (List.mem_cons_of_mem _ (List.mem_cons_of_mem _ (List.mem_cons_self)))).1 0).trans rfl
  have zr1 := (blk_cell (HM12.out.blks _ (List.mem_cons_of_mem _ (List.mem_cons_of_mem _ (List.mem_cons_self)))).1 1).trans rfl
  have zr2 := (blk_cell (HM12.out.blks _ (List.mem_cons_of_mem _ (List.mem_cons_of_mem _ (List.mem_cons_self)))).1 2).trans rfl
  have zq0 := (blk_cell (HM12.out.blks _ (List.mem_cons_of_mem _ (List.mem_cons_of_mem _ (List.mem_cons_of_mem _ (List.mem_cons_self))))).1 0).trans rfl
  have zq1 := (blk_cell (HM12.out.blks _ (List.mem_cons_of_mem _ (List.mem_cons_of_mem _ (List.mem_cons_of_mem _ (List.mem_cons_self))))).1 1).trans rfl
  have zq2 := (blk_cell (HM12.out.blks _ (List.mem_cons_of_mem _ (List.mem_cons_of_mem _ (List.mem_cons_of_mem _ (List.mem_cons_self))))).1 2).trans rfl
  have zp0 := (blk_cell (HM12.out.blks _ (List.mem_cons_of_mem _ (List.mem_cons_of_mem _ (List.mem_cons_of_mem _ (List.mem_cons_of_mem _ (List.mem_cons_self)))))).1 0).trans rfl
  have zp1 := (blk_cell (HM12.out.blks _ (List.mem_cons_of_mem _ (List.mem_cons_of_mem _ (List.mem_cons_of_mem _ (List.mem_cons_of_mem _ (List.mem_cons_self)))))).1 1).trans rfl
  have zp2 := (blk_cell (HM12.out.blks _ (List.mem_cons_of_mem _ (List.mem_cons_of_mem _ (List.mem_cons_of_mem _ (List.mem_cons_of_mem _ (List.mem_cons_self)))))).1 2).trans rfl
  go_wp2_with fail
  (with_reducible refine (hear_calls w.heap.size gb 1 vb [⟨2, 2, false⟩] 0 0 1 true _ (HM12.out.dsk _ List.mem_cons_self) (by decide)).mono ?_)
  rintro e w13 ⟨rfl, hd, hg⟩
  rw [o6.out] at hd ⊢
  have HM13 := Aside0.mk (M.upd (xs := ([] : List Dsk)) HM12.out hd hg)
  simp only [pass]
  clear zt0 zt1 zt2 zs0 zs1 zs2 zr0 zr1 zr2 zq0 zq1 zq2 zp0 zp1 zp2
  clear hd hg HM12
  have HM14 := Aside0.mk (HM13.out.new #[.int .i64 0, .int .i64 0, .int .i64 0] 29 (by decide))
  clear HM13
  have zu0 := (blk_cell (HM14.out.blks _ (List.mem_cons_self)).1 0).trans rfl
  have zu1 := (blk_cell (HM14.out.blks _ (List.mem_cons_self)).1 1).trans rfl
  have zu2 := (blk_cell (HM14.out.blks _ (List.mem_cons_self)).1 2).trans rfl
  have zt0 := (blk_cell (HM14.out.blks _ (List.mem_cons_of_mem _ (List.mem_cons_self))).1 0).trans rfl
  have zt1 := (blk_cell (HM14.out.blks _ (List.mem_cons_of_mem _ (List.mem_cons_self))).1 1).trans rfl
  have zt2 := (blk_cell (HM14.out.blks _ (List.mem_cons_of_mem _ (List.mem_cons_self))).1 2).trans rfl
  have zs0 := (blk_cell (HM14.out.blks _ (List.mem_cons_of_mem _ (List.mem_cons_of_mem _ (List.mem_cons_self)))).1 0).trans rfl
  have zs1 := (blk_cell (HM14.out.blks _ (List.mem_cons_of_mem _ (List.mem_cons_of_mem _ (List.mem_cons_self)))).1 1).trans rfl
  have zs2 := (blk_cell (HM14.out.blks _ (List.mem_cons_of_mem _ (List.mem_cons_of_mem _ (List.mem_cons_self)))).1 2).trans rfl
  have zr0 := (blk_cell (HM14.out.blks _ (List.mem_cons_of_mem _ (List.mem_cons_of_mem _ (List.mem_cons_of_mem _ (List.mem_cons_self))))).1 0).trans rfl
  have zr1 := (blk_cell (HM14.out.blks _ (List.mem_cons_of_mem _ (List.mem_cons_of_mem _ (List.mem_cons_of_mem _ (List.mem_cons_self))))).1 1).trans rfl
  have zr2 := (blk_cell (HM14.out.blks _ (List.mem_cons_of_mem _ (List.mem_cons_of_mem _ (List.mem_cons_of_mem _ (List.mem_cons_self))))).1 2).trans rfl
  have zq0 := (blk_cell (HM14.out.blks _ (List.mem_cons_of_mem _ (List.mem_cons_of_mem _ (List.mem_cons_of_mem _ (List.mem_cons_of_mem _ (List.mem_cons_self)))))).1 0).trans rfl
  have zq1 := (blk_cell (HM14.out.blks _ (List.mem_cons_of_mem _ (List.mem_cons_of_mem _ (List.mem_cons_of_mem _ (List.mem_cons_of_mem _ (List.mem_cons_self)))))).1 1).trans rfl
  have zq2 := (blk_cell (HM14.out.blks _ (List.mem_cons_of_mem _ (List.mem_cons_of_mem _ (List.mem_cons_of_mem _ (List.mem_cons_of_mem _ (List.mem_cons_self)))))).1 2).trans rfl
  have zp0 := (blk_cell (HM14.out.blks _ (List.mem_cons_of_mem _ (List.mem_cons_of_mem _ (List.mem_cons_of_mem _ (List.mem_cons_of_mem _ (List.mem_cons_of_mem _ (List.mem_cons_self))))))).1 0).trans rfl
  have zp1 := (blk_cell (HM14.out.blks _ (List.mem_cons_of_mem _ (List.mem_cons_of_mem _ (List.mem_cons_of_mem _ (List.mem_cons_of_mem _ (List.mem_cons_of_mem _ (List.mem_cons_self))))))).1 1).trans rfl
  have zp2 := (blk_cell (HM14.out.blks _ (List.mem_cons_of_mem _ (List.mem_cons_of_mem _ (List.mem_cons_of_mem _ (List.mem_cons_of_mem _ (List.mem_cons_of_mem _ (List.mem_cons_self))))))).1 2).trans rfl
  go_wp2
  go_ret
  exact ⟨rfl, HM14.out.bel⟩
end Go.Proofs.YtdgbfaflepiagaaDoor.Seam
