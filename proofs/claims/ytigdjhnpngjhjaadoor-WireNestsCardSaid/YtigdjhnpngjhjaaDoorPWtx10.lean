-- written by a program of this claim's own (wip/tools/pp.py), after the kit's printer
import Derived.Test.YtigdjhnpngjhjaaDoorPWtx0
import Derived.Test.YtigdjhnpngjhjaaDoorPWtx1
import Derived.Test.YtigdjhnpngjhjaaDoorPWtx2
import Derived.Test.YtigdjhnpngjhjaaDoorPWtx3
import Derived.Test.YtigdjhnpngjhjaaDoorPWtx7
import Derived.Test.YtigdjhnpngjhjaaDoorPWtx8
namespace Go.Proofs.YtigdjhnpngjhjaaDoor.PWt
open Go.RowKit Go.Proofs.YtigdjhnpngjhjaaDoorW.PrintWords Go.Proofs.YtigdjhnpngjhjaaDoorW.PrintLast Go.Proofs.YtigdjhnpngjhjaaDoorW.PrintMore
attribute [local go_sem] max2_int min2_int max_two min_two max_three min_three max_four min_four   -- for this text's walks alone
set_option linter.unusedVariables false
set_option linter.unusedSimpArgs false

/-! ### taquinlaw01_WireNests: function 6 -/
mutual
def taquinlaw01_WireNests.l0 : Nat → List (S25) → Bool → List ByteArray → Int → Option (Bool)
  | 0, _, _, _, _ => none
  | k + 1, x0, x3, x4, x5 => if x5 < (x0.length : Int) then (if 0 ≤ x5 then ((taquinlaw01_write.f ((rd_T25 x0 x5).f0) ((rd_T25 x0 x5).f1) ((rd_T25 x0 x5).f2) ((rd_T25 x0 x5).f3) ((rd_T25 x0 x5).f4)).bind fun t362 => (if x4.length < 8796093022208 then (taquinlaw01_WireNests.l0 k x0 x3 (x4 ++ [t362]) (wrap64 (x5 + 1))) else (none))) else (none)) else ((wire_Texts.f x4).bind fun t366 => ((wire_Text.f t366).bind fun t367 => ((wire_Open.f t367).bind fun bt368 => ((wire_Reader_Text.f bt368.1 bt368.2).bind fun bt371 => ((wire_Open.f bt371.1).bind fun bt374 => ((wire_Reader_Done.f bt371.2.1 bt371.2.2).bind fun bt377 => (if bt377.1 = true then ((wire_Reader_Texts.f bt374.1 bt374.2).bind fun bt380 => (if (bt380.1.length : Int) = (x0.length : Int) then ((wire_Reader_Done.f bt380.2.1 bt380.2.2).bind fun bt385 => (taquinlaw01_WireNests.j1 k x0 x3 bt380.1 (!bt385.1))) else (taquinlaw01_WireNests.j1 k x0 x3 bt380.1 true))) else (none))))))))
def taquinlaw01_WireNests.j1 : Nat → List (S25) → Bool → List ByteArray → Bool → Option (Bool)
  | 0, _, _, _, _ => none
  | k + 1, x0, x3, x8, x57 => if x57 = true then (none) else (taquinlaw01_WireNests.l1 k x0 x3 x8 0)
def taquinlaw01_WireNests.l1 : Nat → List (S25) → Bool → List ByteArray → Int → Option (Bool)
  | 0, _, _, _, _ => none
  | k + 1, x0, x3, x8, x9 => if x9 < (x0.length : Int) then (if 0 ≤ x9 then (if x9 < (x8.length : Int) then ((wire_Open.f (rdOf ByteArray.empty x8 x9)).bind fun bt389 => ((taquinlaw01_equal.f k bt389.1 bt389.2 ((rd_T25 x0 x9).f0) ((rd_T25 x0 x9).f1) ((rd_T25 x0 x9).f2) ((rd_T25 x0 x9).f3) ((rd_T25 x0 x9).f4)).bind fun bt393 => (if bt393.1 = true then ((wire_Reader_Done.f bt393.2.1 bt393.2.2).bind fun bt396 => (if bt396.1 = true then (taquinlaw01_WireNests.l1 k x0 x3 x8 (wrap64 (x9 + 1))) else (none))) else (none)))) else (none)) else (none)) else (some x3)
end
def taquinlaw01_WireNests.f (k : Nat) (l0 : List (S25)) : Option (Bool) := (taquinlaw01_small.f k).bind fun t359 => ((taquinlaw01_few.f k l0).bind fun t360 => (if t360 = true then (taquinlaw01_WireNests.l0 k l0 t359 ([] : List ByteArray) 0) else (some t359)))
theorem taquinlaw01_WireNests.mono_l : ∀ k, (∀ y0 y1 y2 y3, LeO (taquinlaw01_WireNests.l0 k y0 y1 y2 y3) (taquinlaw01_WireNests.l0 (k + 1) y0 y1 y2 y3)) ∧ (∀ y0 y1 y2 y3, LeO (taquinlaw01_WireNests.j1 k y0 y1 y2 y3) (taquinlaw01_WireNests.j1 (k + 1) y0 y1 y2 y3)) ∧ (∀ y0 y1 y2 y3, LeO (taquinlaw01_WireNests.l1 k y0 y1 y2 y3) (taquinlaw01_WireNests.l1 (k + 1) y0 y1 y2 y3))
  | 0 => ⟨fun _ _ _ _ r h => by simp [taquinlaw01_WireNests.l0] at h, fun _ _ _ _ r h => by simp [taquinlaw01_WireNests.j1] at h, fun _ _ _ _ r h => by simp [taquinlaw01_WireNests.l1] at h⟩
  | k + 1 => by
    obtain ⟨ih0, ih1, ih2⟩ := taquinlaw01_WireNests.mono_l k
    refine ⟨?_, ?_, ?_⟩
    · intro y0 y1 y2 y3
      unfold taquinlaw01_WireNests.l0
      repeat' first
      | (with_reducible exact ih0 _ _ _ _)
      | (with_reducible exact ih1 _ _ _ _)
      | (with_reducible exact ih2 _ _ _ _)
      | (with_reducible exact taquinlaw01_equal.mono _ _ _ _ _ _ _ _)
      | (with_reducible exact taquinlaw01_few.mono _ _)
      | (with_reducible exact taquinlaw01_small.mono _)
      | (with_reducible exact LeO.refl _)
      | (with_reducible exact LeO.none _)
      | (with_reducible refine LeO.ite ?_ ?_)
      | (with_reducible refine LeO.bind ?_ (fun _ => ?_))
      | exact ih0 _ _ _ _
      | exact ih1 _ _ _ _
      | exact ih2 _ _ _ _
      | exact taquinlaw01_equal.mono _ _ _ _ _ _ _ _
      | exact taquinlaw01_few.mono _ _
      | exact taquinlaw01_small.mono _
      | exact LeO.none _
      | refine LeO.ite ?_ ?_
      | refine LeO.bind ?_ (fun _ => ?_)
    · intro y0 y1 y2 y3
      unfold taquinlaw01_WireNests.j1
      repeat' first
      | (with_reducible exact ih0 _ _ _ _)
      | (with_reducible exact ih1 _ _ _ _)
      | (with_reducible exact ih2 _ _ _ _)
      | (with_reducible exact taquinlaw01_equal.mono _ _ _ _ _ _ _ _)
      | (with_reducible exact taquinlaw01_few.mono _ _)
      | (with_reducible exact taquinlaw01_small.mono _)
      | (with_reducible exact LeO.refl _)
      | (with_reducible exact LeO.none _)
      | (with_reducible refine LeO.ite ?_ ?_)
      | (with_reducible refine LeO.bind ?_ (fun _ => ?_))
      | exact ih0 _ _ _ _
      | exact ih1 _ _ _ _
      | exact ih2 _ _ _ _
      | exact taquinlaw01_equal.mono _ _ _ _ _ _ _ _
      | exact taquinlaw01_few.mono _ _
      | exact taquinlaw01_small.mono _
      | exact LeO.none _
      | refine LeO.ite ?_ ?_
      | refine LeO.bind ?_ (fun _ => ?_)
    · intro y0 y1 y2 y3
      unfold taquinlaw01_WireNests.l1
      repeat' first
      | (with_reducible exact ih0 _ _ _ _)
      | (with_reducible exact ih1 _ _ _ _)
      | (with_reducible exact ih2 _ _ _ _)
      | (with_reducible exact taquinlaw01_equal.mono _ _ _ _ _ _ _ _)
      | (with_reducible exact taquinlaw01_few.mono _ _)
      | (with_reducible exact taquinlaw01_small.mono _)
      | (with_reducible exact LeO.refl _)
      | (with_reducible exact LeO.none _)
      | (with_reducible refine LeO.ite ?_ ?_)
      | (with_reducible refine LeO.bind ?_ (fun _ => ?_))
      | exact ih0 _ _ _ _
      | exact ih1 _ _ _ _
      | exact ih2 _ _ _ _
      | exact taquinlaw01_equal.mono _ _ _ _ _ _ _ _
      | exact taquinlaw01_few.mono _ _
      | exact taquinlaw01_small.mono _
      | exact LeO.none _
      | refine LeO.ite ?_ ?_
      | refine LeO.bind ?_ (fun _ => ?_)
theorem taquinlaw01_WireNests.mono : ∀ a0 k, LeO (taquinlaw01_WireNests.f k a0) (taquinlaw01_WireNests.f (k + 1) a0) := by
  intro a0 k
  obtain ⟨ih0, ih1, ih2⟩ := taquinlaw01_WireNests.mono_l k
  unfold taquinlaw01_WireNests.f
  repeat' first
      | (with_reducible exact ih0 _ _ _ _)
      | (with_reducible exact ih1 _ _ _ _)
      | (with_reducible exact ih2 _ _ _ _)
      | (with_reducible exact taquinlaw01_equal.mono _ _ _ _ _ _ _ _)
      | (with_reducible exact taquinlaw01_few.mono _ _)
      | (with_reducible exact taquinlaw01_small.mono _)
      | (with_reducible exact LeO.refl _)
      | (with_reducible exact LeO.none _)
      | (with_reducible refine LeO.ite ?_ ?_)
      | (with_reducible refine LeO.bind ?_ (fun _ => ?_))
      | exact ih0 _ _ _ _
      | exact ih1 _ _ _ _
      | exact ih2 _ _ _ _
      | exact taquinlaw01_equal.mono _ _ _ _ _ _ _ _
      | exact taquinlaw01_few.mono _ _
      | exact taquinlaw01_small.mono _
      | exact LeO.none _
      | refine LeO.ite ?_ ?_
      | refine LeO.bind ?_ (fun _ => ?_)
set_option maxHeartbeats 8000000 in
set_option maxRecDepth 100000 in
theorem taquinlaw01_WireNests.calls (k : Nat) (A0 : Option Addr) (c0 : Nat) (l0 : List (S25)) (r : Bool) (w : World) (hr0 : Kd.C k25 w A0 l0.length l0) (hc0 : l0.length ≤ c0) (h : taquinlaw01_WireNests.f k l0 = some r) (hT : Tabs w) :
    Calls Tryd.prog 6 #[.slice A0 l0.length c0] w fun e w' => e = .returned (.bool r) ∧ Below w.heap.size w w' := by
  have hu25 := Tryd.underlying25
  have HR0 := Aside0.mk hr0
  have HC0 := Aside0.mk hc0
  clear hr0 hc0
  have HT := Aside0.mk hT
  clear hT
  have HB := Aside0.mk (Below.refl w.heap.size w)
  have H : ((taquinlaw01_small.f k).bind fun t359 => ((taquinlaw01_few.f k l0).bind fun t360 => (if t360 = true then (taquinlaw01_WireNests.l0 k l0 t359 ([] : List ByteArray) 0) else (some t359)))) = some r := h
  clear h
  replace H := Option.bind_eq_some_iff.mp H
  obtain ⟨t359, A20, H⟩ := H
  replace H : ((taquinlaw01_few.f k l0).bind fun t360 => (if t360 = true then (taquinlaw01_WireNests.l0 k l0 t359 ([] : List ByteArray) 0) else (some t359))) = some r := H
  have A2 := Aside0.mk A20
  clear A20
  replace H := Option.bind_eq_some_iff.mp H
  obtain ⟨t360, A30, H⟩ := H
  replace H : (if t360 = true then (taquinlaw01_WireNests.l0 k l0 t359 ([] : List ByteArray) 0) else (some t359)) = some r := H
  have A3 := Aside0.mk A30
  clear A30
  by_cases c4 : t360 = true
  · subst c4
    have H1 : (taquinlaw01_WireNests.l0 k l0 t359 ([] : List ByteArray) 0) = some r := by rw [if_pos rfl] at H; exact H
    clear H
    have H := H1
    clear H1
    have H' := Aside0.mk H
    clear H
    go_enter Tryd.func6, Tryd.ntmps6
    go_wp2_with (first | ((with_reducible refine gate_callee (f := 21) rfl ?_); refine goesL_ (some 11) rfl rfl Tryd.func21 (by kernel_rfl) rfl #[] rfl (by (try simp only [List.map_toArray, List.map_cons, List.map_nil]); first | done | rfl | (simp only [List.length_drop, List.length_take]; rfl)) ?_; (with_reducible refine (taquinlaw01_small.calls k  t359 _ A2.out (HT.out.below (by repeat (first | (with_reducible first | exact HB.out | apply below_alloc | apply pw_below_drewN | apply below_drew1) | exact HB.out)))).mono ?_); rintro e w5 ⟨rfl, hb⟩; refine ⟨_, rfl, ?_⟩; have n0_ := Aside0.mk (below_step (by repeat (first | (with_reducible first | exact HB.out | apply below_alloc | apply pw_below_drewN | apply below_drew1) | exact HB.out)) hb); clear HB; have HB := n0_; clear n0_; (try clear hb); (try clear hb2); (try clear hk); (try clear hi)) | ((with_reducible refine gate_callee (f := 22) rfl ?_); refine goesL_ (some 13) rfl rfl Tryd.func22 (by kernel_rfl) rfl #[.slice A0 l0.length c0] rfl (by (try simp only [List.map_toArray, List.map_cons, List.map_nil]); first | done | rfl | (simp only [List.length_drop, List.length_take]; rfl)) ?_; (with_reducible refine (taquinlaw01_few.calls k _ _ l0 true _ ?side1 ?side2 A3.out).mono ?_); (case side1 => repeat (first | exact (Kd.C_below HR0.out HB.out) | (with_reducible refine Kd.C_alloc ?_ _) | (with_reducible refine Kd.C_drewN ?_ _) | (with_reducible refine Kd.C_drew ?_))); (case side2 => exact HC0.out); rintro e w' ⟨rfl, ⟨nd, rfl⟩⟩; refine ⟨_, rfl, ?_⟩))
    go_loopg [4, 5] k (fun kq v4 v5 w' => ∃ (x4_1 : List ByteArray) (x5_1 : Int), v5 = .int .i64 x5_1 ∧ Aside0 (taquinlaw01_WireNests.l0 kq l0 t359 x4_1 x5_1 = some r) ∧ Aside0 (kq ≤ k) ∧ Aside0 (Kd.R Kd.string 9 w' w.heap.size (fun _ => True) v4 x4_1) ∧ Aside0 (Below w.heap.size w w'))
    case atStart => exact ⟨(([] : List ByteArray)), (0), (by first | rfl | (simp; done) | (simp [*]; done)), H', ⟨Nat.le_refl _⟩, ⟨by first | exact Kd.R_nil _ _ _ _ _ | exact Kd.N_nil _ _ _ _ _ | exact Kd.V_nil _ _ _ _ _ | exact Kd.Q_nil _ _ _ _ _ | exact Kd.S_nil _ _ _ _ _⟩, ⟨by repeat (first | (with_reducible first | exact HB.out | apply below_alloc | apply pw_below_drewN | apply below_drew1) | exact HB.out)⟩⟩
    case round =>
      clear H'
      try clear c2
      try clear p2
      try clear c4
      obtain ⟨x4_1, x5_1, rfl, HA, HK1, HO_4, HB⟩ := hrel
      cases gk with
      | zero => exact absurd HA.out (by simp [taquinlaw01_WireNests.l0])
      | succ k1 =>
        have H := HA.out
        clear HA
        simp only [taquinlaw01_WireNests.l0] at H
        by_cases c6 : x5_1 < (l0.length : Int)
        · rw [if_pos c6] at H
          have c6b0 : decide (x5_1 < (l0.length : Int)) = true := decide_eq_true c6
          clear c6
          by_cases c7 : 0 ≤ x5_1
          · rw [if_pos c7] at H
            have c7b0 : decide (0 ≤ x5_1) = true := decide_eq_true c7
            clear c7
            replace H := Option.bind_eq_some_iff.mp H
            obtain ⟨t362, A80, H⟩ := H
            replace H : (if x4_1.length < 8796093022208 then (taquinlaw01_WireNests.l0 k1 l0 t359 (x4_1 ++ [t362]) (wrap64 (x5_1 + 1))) else (none)) = some r := H
            have A8 := Aside0.mk A80
            clear A80
            by_cases c9 : x4_1.length < 8796093022208
            · rw [if_pos c9] at H
              have LMc9 := Aside0.mk c9
              clear c9
              obtain ⟨y363, hy363⟩ : ∃ y_ : List ByteArray, y_ = (x4_1 ++ [t362]) := ⟨_, rfl⟩
              replace H : (taquinlaw01_WireNests.l0 k1 l0 t359 y363 (wrap64 (x5_1 + 1))) = some r := by first | (rw [hy363]; with_reducible exact H) | (have H2_ := (Option.bind_some _ _).symm.trans H; rw [hy363]; with_reducible exact H2_) | (have H2_ := (Option.bind_some _ _).symm.trans H; with_reducible exact H2_) | with_reducible exact H | (rw [hy363]; exact H) | exact H
              have Ny363 := Aside0.mk hy363
              clear hy363
              have H' := Aside0.mk H
              clear H
              have p361 : 0 ≤ (x5_1 : Int) := of_decide_eq_true (by first | (with_reducible assumption) | assumption)
              have q361 : x5_1 < (l0.length : Int) := of_decide_eq_true (by first | (with_reducible assumption) | assumption)
              obtain ⟨ad361, A361_3, c361_3, A361_4, c361_4, e361, hx361_0, hx361_1, hx361_2, hx361_3, hx361_4, hl361_3, hi361_3, hl361_4, hi361_4⟩ := at_T25 HR0.out x5_1 p361 q361
              cases e361
              replace hx361_0 := (HB.out.cell (World.block_lt_of_cell? w _ hx361_0)).trans hx361_0
              replace hx361_1 := (HB.out.cell (World.block_lt_of_cell? w _ hx361_1)).trans hx361_1
              replace hx361_2 := (HB.out.cell (World.block_lt_of_cell? w _ hx361_2)).trans hx361_2
              replace hx361_3 := (HB.out.cell (World.block_lt_of_cell? w _ hx361_3)).trans hx361_3
              replace hx361_4 := (HB.out.cell (World.block_lt_of_cell? w _ hx361_4)).trans hx361_4
              have HR361_3 := Aside0.mk hi361_3
              have HC361_3 := Aside0.mk hl361_3
              clear hi361_3 hl361_3
              have HR361_4 := Aside0.mk hi361_4
              have HC361_4 := Aside0.mk hl361_4
              clear hi361_4 hl361_4
              replace p361 := eq_true p361
              replace q361 := eq_true q361
              go_wp2_with (first | ((with_reducible refine gate_callee (f := 42) rfl ?_); refine goesL_ (some 27) rfl rfl Tryd.func42 (by kernel_rfl) rfl #[.agg #[.int .i64 ((rd_T25 l0 x5_1).f0), .int .i64 ((rd_T25 l0 x5_1).f1), .string ((rd_T25 l0 x5_1).f2), .slice A361_3 ((rd_T25 l0 x5_1).f3).length c361_3, .slice A361_4 ((rd_T25 l0 x5_1).f4).length c361_4]] rfl (by (try simp only [List.map_toArray, List.map_cons, List.map_nil]); first | done | rfl | (simp only [List.length_drop, List.length_take]; rfl)) ?_; (with_reducible refine (taquinlaw01_write.calls ((rd_T25 l0 x5_1).f0) ((rd_T25 l0 x5_1).f1) ((rd_T25 l0 x5_1).f2) _ _ ((rd_T25 l0 x5_1).f3) _ _ ((rd_T25 l0 x5_1).f4) t362 _ ?side1 ?side2 ?side3 ?side4 A8.out (HT.out.below (by repeat (first | (with_reducible first | exact HB.out | apply below_alloc | apply pw_below_drewN | apply below_drew1) | exact HB.out)))).mono ?_); (case side1 => repeat (first | exact (Kd.C_below HR361_3.out HB.out) | (with_reducible refine Kd.C_alloc ?_ _) | (with_reducible refine Kd.C_drewN ?_ _) | (with_reducible refine Kd.C_drew ?_))); (case side2 => exact HC361_3.out); (case side3 => repeat (first | exact (Kd.C_below HR361_4.out HB.out) | (with_reducible refine Kd.C_alloc ?_ _) | (with_reducible refine Kd.C_drewN ?_ _) | (with_reducible refine Kd.C_drew ?_))); (case side4 => exact HC361_4.out); rintro e w10 ⟨rfl, hb⟩; refine ⟨_, rfl, ?_⟩; have n0_ := Aside0.mk (Kd.R_below (by (with_reducible repeat (first | apply Kd.R_alloc | apply Kd.R_drewN | apply Kd.R_drew)); exact HO_4.out) hb); have n1_ := Aside0.mk (below_step (by repeat (first | (with_reducible first | exact HB.out | apply below_alloc | apply pw_below_drewN | apply below_drew1) | exact HB.out)) hb); clear HO_4; clear HB; have HO_4 := n0_; have HB := n1_; clear n0_ n1_; (try clear hb); (try clear hb2); (try clear hk); (try clear hi)) | ((with_reducible refine gate_builtin (b := .append) (xs := #[.tmp 22, .tmp 28]) rfl ?_); at_builtin; refine Kd.R_append Kd.string (w0 := w) w.heap.size rfl (.tmp 22) (.tmp 28) 23 9 (.string ⟨#[]⟩) 16 rfl Tryd.underlying23 info9 rfl (by decide) (by omega) u4 x4_1 t362 [.string t362] (fun _ => True) (fun _ => False) rfl rfl ?aP (fun _ hk => hk.elim) ?aF ?aO ?aB ?aS ?aL ?_; (case aP => exact rfl); (case aB => exact (by repeat (first | (with_reducible first | exact HB.out | apply below_alloc | apply pw_below_drewN | apply below_drew1) | exact HB.out))); (case aF => exact (fun _ _ => trivial)); (case aO => exact (by (with_reducible repeat (first | apply Kd.R_alloc | apply Kd.R_drewN | apply Kd.R_drew)); exact HO_4.out)); (case aS => exact (below_size (by repeat (first | (with_reducible first | exact HB.out | apply below_alloc | apply pw_below_drewN | apply below_drew1) | exact HB.out)))); (case aL => have := LMc9.out; omega); intro v364 w11 ho hb hg hat; rw [← Ny363.out] at ho; have n0_ := Aside0.mk (hb); have n1_ := Aside0.mk (ho); clear HB; clear HO_4; have HB := n0_; have HO365 := n1_; clear n0_ n1_; clear ho hb hg hat))
              go_roundg k1
              case measure => have := HK1.out; omega
              case rel => exact ⟨(y363), (wrap64 (x5_1 + 1)), (by first | rfl | (simp; done) | (simp [*]; done)), H', ⟨by have := HK1.out; omega⟩, ⟨by (with_reducible repeat (first | apply Kd.R_alloc | apply Kd.R_drewN | apply Kd.R_drew)); exact HO365.out⟩, ⟨by repeat (first | (with_reducible first | exact HB.out | apply below_alloc | apply pw_below_drewN | apply below_drew1) | exact HB.out)⟩⟩
            · rw [if_neg c9] at H
              exact absurd H (by simp)
          · rw [if_neg c7] at H
            exact absurd H (by simp)
        · rw [if_neg c6] at H
          have c6b0 : decide (x5_1 < (l0.length : Int)) = false := decide_eq_false c6
          clear c6
          replace H := Option.bind_eq_some_iff.mp H
          obtain ⟨t366, A120, H⟩ := H
          replace H : ((wire_Text.f t366).bind fun t367 => ((wire_Open.f t367).bind fun bt368 => ((wire_Reader_Text.f bt368.1 bt368.2).bind fun bt371 => ((wire_Open.f bt371.1).bind fun bt374 => ((wire_Reader_Done.f bt371.2.1 bt371.2.2).bind fun bt377 => (if bt377.1 = true then ((wire_Reader_Texts.f bt374.1 bt374.2).bind fun bt380 => (if (bt380.1.length : Int) = (l0.length : Int) then ((wire_Reader_Done.f bt380.2.1 bt380.2.2).bind fun bt385 => (taquinlaw01_WireNests.j1 k1 l0 t359 bt380.1 (!bt385.1))) else (taquinlaw01_WireNests.j1 k1 l0 t359 bt380.1 true))) else (none))))))) = some r := H
          have A12 := Aside0.mk A120
          clear A120
          replace H := Option.bind_eq_some_iff.mp H
          obtain ⟨t367, A130, H⟩ := H
          replace H : ((wire_Open.f t367).bind fun bt368 => ((wire_Reader_Text.f bt368.1 bt368.2).bind fun bt371 => ((wire_Open.f bt371.1).bind fun bt374 => ((wire_Reader_Done.f bt371.2.1 bt371.2.2).bind fun bt377 => (if bt377.1 = true then ((wire_Reader_Texts.f bt374.1 bt374.2).bind fun bt380 => (if (bt380.1.length : Int) = (l0.length : Int) then ((wire_Reader_Done.f bt380.2.1 bt380.2.2).bind fun bt385 => (taquinlaw01_WireNests.j1 k1 l0 t359 bt380.1 (!bt385.1))) else (taquinlaw01_WireNests.j1 k1 l0 t359 bt380.1 true))) else (none)))))) = some r := H
          have A13 := Aside0.mk A130
          clear A130
          replace H := Option.bind_eq_some_iff.mp H
          obtain ⟨⟨t368, t369⟩, A140, H⟩ := H
          replace H : ((wire_Reader_Text.f t368 t369).bind fun bt371 => ((wire_Open.f bt371.1).bind fun bt374 => ((wire_Reader_Done.f bt371.2.1 bt371.2.2).bind fun bt377 => (if bt377.1 = true then ((wire_Reader_Texts.f bt374.1 bt374.2).bind fun bt380 => (if (bt380.1.length : Int) = (l0.length : Int) then ((wire_Reader_Done.f bt380.2.1 bt380.2.2).bind fun bt385 => (taquinlaw01_WireNests.j1 k1 l0 t359 bt380.1 (!bt385.1))) else (taquinlaw01_WireNests.j1 k1 l0 t359 bt380.1 true))) else (none))))) = some r := H
          have A14 := Aside0.mk A140
          clear A140
          replace H := Option.bind_eq_some_iff.mp H
          obtain ⟨⟨t371, t372, t373⟩, A150, H⟩ := H
          replace H : ((wire_Open.f t371).bind fun bt374 => ((wire_Reader_Done.f t372 t373).bind fun bt377 => (if bt377.1 = true then ((wire_Reader_Texts.f bt374.1 bt374.2).bind fun bt380 => (if (bt380.1.length : Int) = (l0.length : Int) then ((wire_Reader_Done.f bt380.2.1 bt380.2.2).bind fun bt385 => (taquinlaw01_WireNests.j1 k1 l0 t359 bt380.1 (!bt385.1))) else (taquinlaw01_WireNests.j1 k1 l0 t359 bt380.1 true))) else (none)))) = some r := H
          have A15 := Aside0.mk A150
          clear A150
          replace H := Option.bind_eq_some_iff.mp H
          obtain ⟨⟨t374, t375⟩, A160, H⟩ := H
          replace H : ((wire_Reader_Done.f t372 t373).bind fun bt377 => (if bt377.1 = true then ((wire_Reader_Texts.f t374 t375).bind fun bt380 => (if (bt380.1.length : Int) = (l0.length : Int) then ((wire_Reader_Done.f bt380.2.1 bt380.2.2).bind fun bt385 => (taquinlaw01_WireNests.j1 k1 l0 t359 bt380.1 (!bt385.1))) else (taquinlaw01_WireNests.j1 k1 l0 t359 bt380.1 true))) else (none))) = some r := H
          have A16 := Aside0.mk A160
          clear A160
          replace H := Option.bind_eq_some_iff.mp H
          obtain ⟨⟨t377, t378, t379⟩, A170, H⟩ := H
          replace H : (if t377 = true then ((wire_Reader_Texts.f t374 t375).bind fun bt380 => (if (bt380.1.length : Int) = (l0.length : Int) then ((wire_Reader_Done.f bt380.2.1 bt380.2.2).bind fun bt385 => (taquinlaw01_WireNests.j1 k1 l0 t359 bt380.1 (!bt385.1))) else (taquinlaw01_WireNests.j1 k1 l0 t359 bt380.1 true))) else (none)) = some r := H
          have A17 := Aside0.mk A170
          clear A170
          by_cases c18 : t377 = true
          · subst c18
            have H1 : ((wire_Reader_Texts.f t374 t375).bind fun bt380 => (if (bt380.1.length : Int) = (l0.length : Int) then ((wire_Reader_Done.f bt380.2.1 bt380.2.2).bind fun bt385 => (taquinlaw01_WireNests.j1 k1 l0 t359 bt380.1 (!bt385.1))) else (taquinlaw01_WireNests.j1 k1 l0 t359 bt380.1 true))) = some r := by rw [if_pos rfl] at H; exact H
            clear H
            have H := H1
            clear H1
            replace H := Option.bind_eq_some_iff.mp H
            obtain ⟨⟨t380, t383, t384⟩, A190, H⟩ := H
            replace H : (if (t380.length : Int) = (l0.length : Int) then ((wire_Reader_Done.f t383 t384).bind fun bt385 => (taquinlaw01_WireNests.j1 k1 l0 t359 t380 (!bt385.1))) else (taquinlaw01_WireNests.j1 k1 l0 t359 t380 true)) = some r := H
            have A19 := Aside0.mk A190
            clear A190
            have HC20 := Aside0.mk H
            clear H
            obtain ⟨Ao21, co21, eo21⟩ := Kd.R_slice HO_4.out
            subst eo21
            go_upto_region 16 with (first | ((with_reducible refine gate_callee (f := 31) rfl ?_); refine goesL_ (some 31) rfl rfl Tryd.func31 (by kernel_rfl) rfl #[.slice Ao21 x4_1.length co21] rfl (by (try simp only [List.map_toArray, List.map_cons, List.map_nil]); first | done | rfl | (simp only [List.length_drop, List.length_take]; rfl)) ?_; (with_reducible refine (wire_Texts.calls _ _ x4_1 t366 _ ?side1 ?side2 A12.out (HT.out.below (by repeat (first | (with_reducible first | exact HB.out | apply below_alloc | apply pw_below_drewN | apply below_drew1) | exact HB.out)))).mono ?_); (case side1 => repeat (first | exact (Kd.R_reads' HO_4.out).2.2 | (with_reducible refine Kd.C_alloc ?_ _) | (with_reducible refine Kd.C_drewN ?_ _) | (with_reducible refine Kd.C_drew ?_))); (case side2 => exact (Kd.R_reads' HO_4.out).2.1); rintro e w22 ⟨rfl, hb⟩; refine ⟨_, rfl, ?_⟩; have n0_ := Aside0.mk (Kd.R_below (by (with_reducible repeat (first | apply Kd.R_alloc | apply Kd.R_drewN | apply Kd.R_drew)); exact HO_4.out) hb); have n1_ := Aside0.mk (below_step (by repeat (first | (with_reducible first | exact HB.out | apply below_alloc | apply pw_below_drewN | apply below_drew1) | exact HB.out)) hb); clear HO_4; clear HB; have HO_4 := n0_; have HB := n1_; clear n0_ n1_; (try clear hb); (try clear hb2); (try clear hk); (try clear hi)) | ((with_reducible refine gate_callee (f := 27) rfl ?_); refine goesL_ (some 32) rfl rfl Tryd.func27 (by kernel_rfl) rfl #[.string t366] rfl (by (try simp only [List.map_toArray, List.map_cons, List.map_nil]); first | done | rfl | (simp only [List.length_drop, List.length_take]; rfl)) ?_; (with_reducible refine (wire_Text.calls t366 t367 _ A13.out (HT.out.below (by repeat (first | (with_reducible first | exact HB.out | apply below_alloc | apply pw_below_drewN | apply below_drew1) | exact HB.out)))).mono ?_); rintro e w23 ⟨rfl, hb⟩; refine ⟨_, rfl, ?_⟩; have n0_ := Aside0.mk (Kd.R_below (by (with_reducible repeat (first | apply Kd.R_alloc | apply Kd.R_drewN | apply Kd.R_drew)); exact HO_4.out) hb); have n1_ := Aside0.mk (below_step (by repeat (first | (with_reducible first | exact HB.out | apply below_alloc | apply pw_below_drewN | apply below_drew1) | exact HB.out)) hb); clear HO_4; clear HB; have HO_4 := n0_; have HB := n1_; clear n0_ n1_; (try clear hb); (try clear hb2); (try clear hk); (try clear hi)) | ((with_reducible refine gate_callee (f := 33) rfl ?_); refine goesL_ (some 33) rfl rfl Tryd.func33 (by kernel_rfl) rfl #[.string t367] rfl (by (try simp only [List.map_toArray, List.map_cons, List.map_nil]); first | done | rfl | (simp only [List.length_drop, List.length_take]; rfl)) ?_; (with_reducible refine (wire_Open.calls t367 t368 t369 _ _ (Below.refl _ _) A14.out).mono ?_); rintro e w24 ⟨g370, rfl, hi, hb, hb2⟩; refine ⟨_, rfl, ?_⟩; have n0_ := Aside0.mk (Kd.R_below (by (with_reducible repeat (first | apply Kd.R_alloc | apply Kd.R_drewN | apply Kd.R_drew)); exact HO_4.out) hb2); have n1_ := Aside0.mk (below_step (by repeat (first | (with_reducible first | exact HB.out | apply below_alloc | apply pw_below_drewN | apply below_drew1) | exact HB.out)) hb); have n2_ := Aside0.mk ((show IsS189 w _ g370 t368 t369 from ⟨hi.1, Nat.le_trans (below_size (by repeat (first | (with_reducible first | exact HB.out | apply below_alloc | apply pw_below_drewN | apply below_drew1) | exact HB.out))) hi.2⟩)); clear HO_4; clear HB; have HO_4 := n0_; have HB := n1_; have HI370 := n2_; clear n0_ n1_ n2_; (try clear hb); (try clear hb2); (try clear hk); (try clear hi)) | ((with_reducible refine gate_callee (f := 37) rfl ?_); refine goesL_ (some 37) rfl rfl Tryd.func37 (by kernel_rfl) rfl #[.pointer (some ⟨g370, 0, none⟩)] rfl (by (try simp only [List.map_toArray, List.map_cons, List.map_nil]); first | done | rfl | (simp only [List.length_drop, List.length_take]; rfl)) ?_; (with_reducible refine (wire_Reader_Text.calls g370 t368 t369 t371 t372 t373 w _ ?side1 ?side2 A15.out HT.out).mono ?_); (case side1 => repeat (first | (with_reducible first | exact HI370.out | apply IsS189.alloc | apply IsS189.drewN | apply IsS189.drew | apply IsS189.set_0 | apply IsS189.set_1) | exact HI370.out)); (case side2 => repeat (first | (with_reducible first | exact HB.out | apply below_alloc | apply pw_below_drewN | apply below_drew1 | refine below_set ?_ (IsS189.ge HI370.out)) | exact HB.out)); rintro e w25 ⟨rfl, hi, hb, hk⟩; refine ⟨_, rfl, ?_⟩; have n0_ := Aside0.mk (Kd.R_mono (Kd.R_keep (IsS189.apart (show IsS189 w _ g370 t368 t369 from by repeat (first | (with_reducible first | exact HI370.out | apply IsS189.alloc | apply IsS189.drewN | apply IsS189.drew | apply IsS189.set_0 | apply IsS189.set_1) | exact HI370.out)) (by (with_reducible repeat (first | apply Kd.R_alloc | apply Kd.R_drewN | apply Kd.R_drew)); exact HO_4.out) (by decide)) hk (fun _ h => h.2)) (fun _ h => h.1)); have n1_ := Aside0.mk (hb); have n2_ := Aside0.mk (hi); clear HO_4; clear HB; clear HI370; have HO_4 := n0_; have HB := n1_; have HI370 := n2_; clear n0_ n1_ n2_; (try clear hb); (try clear hb2); (try clear hk); (try clear hi)) | ((with_reducible refine gate_callee (f := 33) rfl ?_); refine goesL_ (some 38) rfl rfl Tryd.func33 (by kernel_rfl) rfl #[.string t371] rfl (by (try simp only [List.map_toArray, List.map_cons, List.map_nil]); first | done | rfl | (simp only [List.length_drop, List.length_take]; rfl)) ?_; (with_reducible refine (wire_Open.calls t371 t374 t375 _ _ (Below.refl _ _) A16.out).mono ?_); rintro e w26 ⟨g376, rfl, hi, hb, hb2⟩; refine ⟨_, rfl, ?_⟩; have n0_ := Aside0.mk (Kd.R_below (by (with_reducible repeat (first | apply Kd.R_alloc | apply Kd.R_drewN | apply Kd.R_drew)); exact HO_4.out) hb2); have n1_ := Aside0.mk (IsS189.below (by repeat (first | (with_reducible first | exact HI370.out | apply IsS189.alloc | apply IsS189.drewN | apply IsS189.drew | apply IsS189.set_0 | apply IsS189.set_1) | exact HI370.out)) hb2); have n2_ := Aside0.mk (below_step (by repeat (first | (with_reducible first | exact HB.out | apply below_alloc | apply pw_below_drewN | apply below_drew1 | refine below_set ?_ (IsS189.ge HI370.out)) | exact HB.out)) hb); have n3_ := Aside0.mk ((show IsS189 w _ g376 t374 t375 from ⟨hi.1, Nat.le_trans (below_size (by repeat (first | (with_reducible first | exact HB.out | apply below_alloc | apply pw_below_drewN | apply below_drew1 | refine below_set ?_ (IsS189.ge HI370.out)) | exact HB.out))) hi.2⟩)); have n4_ := Aside0.mk ((show g376 ≠ g370 from Nat.ne_of_gt (Nat.lt_of_lt_of_le (IsS189.lt (show IsS189 w _ g370 t372 t373 from by repeat (first | (with_reducible first | exact HI370.out | apply IsS189.alloc | apply IsS189.drewN | apply IsS189.drew | apply IsS189.set_0 | apply IsS189.set_1) | exact HI370.out))) hi.2))); have n5_ := Aside0.mk ((show g370 ≠ g376 from Nat.ne_of_lt (Nat.lt_of_lt_of_le (IsS189.lt (show IsS189 w _ g370 t372 t373 from by repeat (first | (with_reducible first | exact HI370.out | apply IsS189.alloc | apply IsS189.drewN | apply IsS189.drew | apply IsS189.set_0 | apply IsS189.set_1) | exact HI370.out))) hi.2))); clear HO_4; clear HI370; clear HB; have HO_4 := n0_; have HI370 := n1_; have HB := n2_; have HI376 := n3_; have NB376_370 := n4_; have NB370_376 := n5_; clear n0_ n1_ n2_ n3_ n4_ n5_; (try clear hb); (try clear hb2); (try clear hk); (try clear hi)) | (go_at_call 41; (with_reducible refine (wire_Reader_Done.calls g370 t372 t373 true t378 t379 w _ ?side1 ?side2 A17.out).mono ?_); (case side1 => repeat (first | (with_reducible first | exact HI370.out | apply IsS189.alloc | apply IsS189.drewN | apply IsS189.drew | apply IsS189.set_0 | apply IsS189.set_1) | exact HI370.out)); (case side2 => repeat (first | (with_reducible first | exact HB.out | apply below_alloc | apply pw_below_drewN | apply below_drew1 | refine below_set ?_ (IsS189.ge HI370.out) | refine below_set ?_ (IsS189.ge HI376.out)) | exact HB.out)); rintro e w27 ⟨rfl, hi, hb, hk⟩; have n0_ := Aside0.mk (Kd.R_mono (Kd.R_keep (IsS189.apart (show IsS189 w _ g370 t372 t373 from by repeat (first | (with_reducible first | exact HI370.out | apply IsS189.alloc | apply IsS189.drewN | apply IsS189.drew | apply IsS189.set_0 | apply IsS189.set_1) | exact HI370.out)) (by (with_reducible repeat (first | apply Kd.R_alloc | apply Kd.R_drewN | apply Kd.R_drew)); exact HO_4.out) (by decide)) hk (fun _ h => h.2)) (fun _ h => h.1)); have n1_ := Aside0.mk ((show IsS189 w _ g376 t374 t375 from ⟨KeepBut.blk hk (show IsS189 w _ g376 t374 t375 from by repeat (first | (with_reducible first | exact HI376.out | apply IsS189.alloc | apply IsS189.drewN | apply IsS189.drew | apply IsS189.set_0 | apply IsS189.set_1) | exact HI376.out)).1 NB376_370.out (by simp), (show IsS189 w _ g376 t374 t375 from by repeat (first | (with_reducible first | exact HI376.out | apply IsS189.alloc | apply IsS189.drewN | apply IsS189.drew | apply IsS189.set_0 | apply IsS189.set_1) | exact HI376.out)).2⟩)); have n2_ := Aside0.mk (hb); have n3_ := Aside0.mk (hi); clear HO_4; clear HI376; clear HB; clear HI370; have HO_4 := n0_; have HI376 := n1_; have HB := n2_; have HI370 := n3_; clear n0_ n1_ n2_ n3_; (try clear hb); (try clear hb2); (try clear hk); (try clear hi)) | ((with_reducible refine gate_callee (f := 39) rfl ?_); refine goesL_ (some 47) rfl rfl Tryd.func39 (by kernel_rfl) rfl #[.pointer (some ⟨g376, 0, none⟩)] rfl (by (try simp only [List.map_toArray, List.map_cons, List.map_nil]); first | done | rfl | (simp only [List.length_drop, List.length_take]; rfl)) ?_; (with_reducible refine (wire_Reader_Texts.calls g376 t374 t375 t380 t383 t384 w _ ?side1 ?side2 A19.out HT.out).mono ?_); (case side1 => repeat (first | (with_reducible first | exact HI376.out | apply IsS189.alloc | apply IsS189.drewN | apply IsS189.drew | apply IsS189.set_0 | apply IsS189.set_1) | exact HI376.out)); (case side2 => repeat (first | (with_reducible first | exact HB.out | apply below_alloc | apply pw_below_drewN | apply below_drew1 | refine below_set ?_ (IsS189.ge HI370.out) | refine below_set ?_ (IsS189.ge HI376.out)) | exact HB.out)); rintro e w28 ⟨v381, rfl, ho0, hi, hb, hk⟩; refine ⟨_, rfl, ?_⟩; have n0_ := Aside0.mk (Kd.R_mono (Kd.R_told (Kd.R_oldK (IsS189.apart (show IsS189 w _ g376 t374 t375 from by repeat (first | (with_reducible first | exact HI376.out | apply IsS189.alloc | apply IsS189.drewN | apply IsS189.drew | apply IsS189.set_0 | apply IsS189.set_1) | exact HI376.out)) (by (with_reducible repeat (first | apply Kd.R_alloc | apply Kd.R_drewN | apply Kd.R_drew)); exact HO_4.out) (by decide)) hk) (Kd.R_base ho0)) (fun _ h_ => h_.1)); have n1_ := Aside0.mk ((show IsS189 w _ g370 t378 t379 from ⟨KeepBut.blk hk (show IsS189 w _ g370 t378 t379 from by repeat (first | (with_reducible first | exact HI370.out | apply IsS189.alloc | apply IsS189.drewN | apply IsS189.drew | apply IsS189.set_0 | apply IsS189.set_1) | exact HI370.out)).1 NB370_376.out (by simp), (show IsS189 w _ g370 t378 t379 from by repeat (first | (with_reducible first | exact HI370.out | apply IsS189.alloc | apply IsS189.drewN | apply IsS189.drew | apply IsS189.set_0 | apply IsS189.set_1) | exact HI370.out)).2⟩)); have n2_ := Aside0.mk (Kd.R_lower (Kd.R_new' ho0 (Kd.R_lt (by (with_reducible repeat (first | apply Kd.R_alloc | apply Kd.R_drewN | apply Kd.R_drew)); exact HO_4.out))) (below_size (by repeat (first | (with_reducible first | exact HB.out | apply below_alloc | apply pw_below_drewN | apply below_drew1 | refine below_set ?_ (IsS189.ge HI370.out) | refine below_set ?_ (IsS189.ge HI376.out)) | exact HB.out)))); have n3_ := Aside0.mk (hb); have n4_ := Aside0.mk (hi); clear HO_4; clear HI370; clear HB; clear HI376; have HO_4 := n0_; have HI370 := n1_; have HO382 := n2_; have HB := n3_; have HI376 := n4_; clear n0_ n1_ n2_ n3_ n4_; (try clear hb); (try clear hb2); (try clear hk); (try clear hi); (try clear ho0)))
            (try simp only [Act.put, List.setIfInBounds_toArray, List.set_cons_zero, List.set_cons_succ])
            go_cut [57] (fun v57 wc => ∃ (kq : Nat) (x57_19 : Bool), v57 = .bool x57_19 ∧ Aside0 (taquinlaw01_WireNests.j1 kq l0 t359 t380 x57_19 = some r) ∧ Aside0 (kq ≤ k1) ∧ Aside0 (Kd.R Kd.string 9 wc w.heap.size (fun _ => True) v381 t380) ∧ Aside0 (Below w.heap.size w wc))
            case first =>
              have H := HC20.out
              clear HC20
              by_cases c29 : (t380.length : Int) = (l0.length : Int)
              · rw [if_pos c29] at H
                have c29b0 : ((t380.length : Int) == (l0.length : Int)) = true := beq_iff_eq.mpr c29
                have c29b1 : ((t380.length : Int) != (l0.length : Int)) = false := bne_eq_false_iff_eq.mpr c29
                have c29b2 : (t380.length == l0.length) = true := by first | simpa using c29 | (simp at c29 ⊢; omega)
                clear c29
                (first | rw [c29b0] | (simp only [i64_w, i32_w]; rw [c29b0]) | skip)
                replace H := Option.bind_eq_some_iff.mp H
                obtain ⟨⟨t385, t386, t387⟩, A300, H⟩ := H
                replace H : (taquinlaw01_WireNests.j1 k1 l0 t359 t380 (!t385)) = some r := H
                have A30 := Aside0.mk A300
                clear A300
                have H' := Aside0.mk H
                clear H
                obtain ⟨Ao31, co31, eo31⟩ := Kd.R_slice HO382.out
                subst eo31
                go_wp2_with (first | (go_at_call 41; (with_reducible refine (wire_Reader_Done.calls g376 t383 t384 t385 t386 t387 w _ ?side1 ?side2 A30.out).mono ?_); (case side1 => repeat (first | (with_reducible first | exact HI376.out | apply IsS189.alloc | apply IsS189.drewN | apply IsS189.drew | apply IsS189.set_0 | apply IsS189.set_1) | exact HI376.out)); (case side2 => repeat (first | (with_reducible first | exact HB.out | apply below_alloc | apply pw_below_drewN | apply below_drew1 | refine below_set ?_ (IsS189.ge HI370.out) | refine below_set ?_ (IsS189.ge HI376.out)) | exact HB.out)); rintro e w32 ⟨rfl, hi, hb, hk⟩; have n0_ := Aside0.mk (Kd.R_mono (Kd.R_keep (IsS189.apart (show IsS189 w _ g376 t383 t384 from by repeat (first | (with_reducible first | exact HI376.out | apply IsS189.alloc | apply IsS189.drewN | apply IsS189.drew | apply IsS189.set_0 | apply IsS189.set_1) | exact HI376.out)) (by (with_reducible repeat (first | apply Kd.R_alloc | apply Kd.R_drewN | apply Kd.R_drew)); exact HO_4.out) (by decide)) hk (fun _ h => h.2)) (fun _ h => h.1)); have n1_ := Aside0.mk ((show IsS189 w _ g370 t378 t379 from ⟨KeepBut.blk hk (show IsS189 w _ g370 t378 t379 from by repeat (first | (with_reducible first | exact HI370.out | apply IsS189.alloc | apply IsS189.drewN | apply IsS189.drew | apply IsS189.set_0 | apply IsS189.set_1) | exact HI370.out)).1 NB370_376.out (by simp), (show IsS189 w _ g370 t378 t379 from by repeat (first | (with_reducible first | exact HI370.out | apply IsS189.alloc | apply IsS189.drewN | apply IsS189.drew | apply IsS189.set_0 | apply IsS189.set_1) | exact HI370.out)).2⟩)); have n2_ := Aside0.mk (Kd.R_mono (Kd.R_keep (IsS189.apart (show IsS189 w _ g376 t383 t384 from by repeat (first | (with_reducible first | exact HI376.out | apply IsS189.alloc | apply IsS189.drewN | apply IsS189.drew | apply IsS189.set_0 | apply IsS189.set_1) | exact HI376.out)) (by (with_reducible repeat (first | apply Kd.R_alloc | apply Kd.R_drewN | apply Kd.R_drew)); exact HO382.out) (by decide)) hk (fun _ h => h.2)) (fun _ h => h.1)); have n3_ := Aside0.mk (hb); have n4_ := Aside0.mk (hi); clear HO_4; clear HI370; clear HO382; clear HB; clear HI376; have HO_4 := n0_; have HI370 := n1_; have HO382 := n2_; have HB := n3_; have HI376 := n4_; clear n0_ n1_ n2_ n3_ n4_; (try clear hb); (try clear hb2); (try clear hk); (try clear hi)))
                go_meet
                case rel => exact ⟨_, (!t385), (by first | rfl | (simp; done) | (simp [*]; done)), H', ⟨by have := HK1.out; first | omega | exact Nat.le_refl _⟩, ⟨by (with_reducible repeat (first | apply Kd.R_alloc | apply Kd.R_drewN | apply Kd.R_drew)); exact Kd.R_mono HO382.out (fun _ hk => trivial)⟩, ⟨by repeat (first | (with_reducible first | exact HB.out | apply below_alloc | apply pw_below_drewN | apply below_drew1 | refine below_set ?_ (IsS189.ge HI370.out) | refine below_set ?_ (IsS189.ge HI376.out)) | exact HB.out)⟩⟩
              · rw [if_neg c29] at H
                have c29b0 : ((t380.length : Int) == (l0.length : Int)) = false := beq_eq_false_iff_ne.mpr c29
                have c29b1 : ((t380.length : Int) != (l0.length : Int)) = true := bne_iff_ne.mpr c29
                have c29b2 : (t380.length == l0.length) = false := by first | simpa using c29 | (simp at c29 ⊢; omega)
                (first | rw [c29b0] | (simp only [i64_w, i32_w]; rw [c29b0]) | skip)
                have H' := Aside0.mk H
                clear H
                obtain ⟨Ao33, co33, eo33⟩ := Kd.R_slice HO382.out
                subst eo33
                go_wp2
                go_meet
                case rel => exact ⟨_, (true), (by first | rfl | (simp; done) | (simp [*]; done)), H', ⟨by have := HK1.out; first | omega | exact Nat.le_refl _⟩, ⟨by (with_reducible repeat (first | apply Kd.R_alloc | apply Kd.R_drewN | apply Kd.R_drew)); exact Kd.R_mono HO382.out (fun _ hk => trivial)⟩, ⟨by repeat (first | (with_reducible first | exact HB.out | apply below_alloc | apply pw_below_drewN | apply below_drew1 | refine below_set ?_ (IsS189.ge HI370.out) | refine below_set ?_ (IsS189.ge HI376.out)) | exact HB.out)⟩⟩
            case rest =>
              clear HC20
              try clear c1
              try clear c2
              try clear p2
              try clear c3
              try clear p3
              try clear q3
              try clear hx3
              try clear c4
              try clear c6
              try clear c6b0
              try clear p6
              try clear c7
              try clear c7b0
              try clear c9
              try clear c18
              try clear c21
              try clear c22
              try clear c27
              try clear c29
              try clear c29b0
              try clear c29b1
              try clear c29b2
              try clear c31
              try clear c33
              try clear hx361_0
              try clear hx361_1
              try clear hx361_2
              try clear hx361_3
              try clear hx361_4
              try clear p2
              try clear p361
              try clear q361
              obtain ⟨kq, x57_19, rfl, HA, HJ19, HO_8, HB⟩ := hcut
              cases kq with
              | zero => exact absurd HA.out (by simp [taquinlaw01_WireNests.j1])
              | succ kj19 =>
                have H := HA.out
                clear HA
                simp only [taquinlaw01_WireNests.j1] at H
                by_cases c34 : x57_19 = true
                · subst c34
                  have H1 : (none) = some r := by rw [if_pos rfl] at H; exact H
                  clear H
                  have H := H1
                  clear H1
                  exact absurd H (by simp)
                · replace c34 := Bool.eq_false_iff.mpr c34
                  subst c34
                  have H1 : (taquinlaw01_WireNests.l1 kj19 l0 t359 t380 0) = some r := by rw [if_neg (show ¬ (false = true) by decide)] at H; exact H
                  clear H
                  have H := H1
                  clear H1
                  have H' := Aside0.mk H
                  clear H
                  go_wp2
                  go_loopg [9] kj19 (fun kq v9 w' => ∃ (x9_3 : Int), v9 = .int .i64 x9_3 ∧ Aside0 (taquinlaw01_WireNests.l1 kq l0 t359 t380 x9_3 = some r) ∧ Aside0 (kq ≤ kj19) ∧ Aside0 (Kd.R Kd.string 9 w' w.heap.size (fun _ => True) v381 t380) ∧ Aside0 (Below w.heap.size w w'))
                  case atStart => exact ⟨(0), (by first | rfl | (simp; done) | (simp [*]; done)), H', ⟨Nat.le_refl _⟩, ⟨by (with_reducible repeat (first | apply Kd.R_alloc | apply Kd.R_drewN | apply Kd.R_drew)); exact HO_8.out⟩, ⟨by repeat (first | (with_reducible first | exact HB.out | apply below_alloc | apply pw_below_drewN | apply below_drew1) | exact HB.out)⟩⟩
                  case round =>
                    clear H'
                    try clear c1
                    try clear c2
                    try clear p2
                    try clear c3
                    try clear p3
                    try clear q3
                    try clear hx3
                    try clear c4
                    try clear c6
                    try clear c6b0
                    try clear p6
                    try clear c7
                    try clear c7b0
                    try clear c9
                    try clear c18
                    try clear c21
                    try clear c22
                    try clear c27
                    try clear c29
                    try clear c29b0
                    try clear c29b1
                    try clear c29b2
                    try clear c31
                    try clear c33
                    try clear c34
                    try clear hx361_0
                    try clear hx361_1
                    try clear hx361_2
                    try clear hx361_3
                    try clear hx361_4
                    try clear p2
                    try clear p3
                    try clear p361
                    try clear p6
                    try clear q3
                    try clear q361
                    obtain ⟨x9_3, rfl, HA, HK3, HO_8, HB⟩ := hrel
                    cases gk with
                    | zero => exact absurd HA.out (by simp [taquinlaw01_WireNests.l1])
                    | succ k3 =>
                      have H := HA.out
                      clear HA
                      simp only [taquinlaw01_WireNests.l1] at H
                      by_cases c35 : x9_3 < (l0.length : Int)
                      · rw [if_pos c35] at H
                        have c35b0 : decide (x9_3 < (l0.length : Int)) = true := decide_eq_true c35
                        clear c35
                        by_cases c36 : 0 ≤ x9_3
                        · rw [if_pos c36] at H
                          have c36b0 : decide (0 ≤ x9_3) = true := decide_eq_true c36
                          clear c36
                          by_cases c37 : x9_3 < (t380.length : Int)
                          · rw [if_pos c37] at H
                            have c37b0 : decide (x9_3 < (t380.length : Int)) = true := decide_eq_true c37
                            clear c37
                            replace H := Option.bind_eq_some_iff.mp H
                            obtain ⟨⟨t389, t390⟩, A380, H⟩ := H
                            replace H : ((taquinlaw01_equal.f k3 t389 t390 ((rd_T25 l0 x9_3).f0) ((rd_T25 l0 x9_3).f1) ((rd_T25 l0 x9_3).f2) ((rd_T25 l0 x9_3).f3) ((rd_T25 l0 x9_3).f4)).bind fun bt393 => (if bt393.1 = true then ((wire_Reader_Done.f bt393.2.1 bt393.2.2).bind fun bt396 => (if bt396.1 = true then (taquinlaw01_WireNests.l1 k3 l0 t359 t380 (wrap64 (x9_3 + 1))) else (none))) else (none))) = some r := H
                            have A38 := Aside0.mk A380
                            clear A380
                            replace H := Option.bind_eq_some_iff.mp H
                            obtain ⟨⟨t393, t394, t395⟩, A390, H⟩ := H
                            replace H : (if t393 = true then ((wire_Reader_Done.f t394 t395).bind fun bt396 => (if bt396.1 = true then (taquinlaw01_WireNests.l1 k3 l0 t359 t380 (wrap64 (x9_3 + 1))) else (none))) else (none)) = some r := H
                            have A39 := Aside0.mk A390
                            clear A390
                            by_cases c40 : t393 = true
                            · subst c40
                              have H1 : ((wire_Reader_Done.f t394 t395).bind fun bt396 => (if bt396.1 = true then (taquinlaw01_WireNests.l1 k3 l0 t359 t380 (wrap64 (x9_3 + 1))) else (none))) = some r := by rw [if_pos rfl] at H; exact H
                              clear H
                              have H := H1
                              clear H1
                              replace H := Option.bind_eq_some_iff.mp H
                              obtain ⟨⟨t396, t397, t398⟩, A410, H⟩ := H
                              replace H : (if t396 = true then (taquinlaw01_WireNests.l1 k3 l0 t359 t380 (wrap64 (x9_3 + 1))) else (none)) = some r := H
                              have A41 := Aside0.mk A410
                              clear A410
                              by_cases c42 : t396 = true
                              · subst c42
                                have H1 : (taquinlaw01_WireNests.l1 k3 l0 t359 t380 (wrap64 (x9_3 + 1))) = some r := by rw [if_pos rfl] at H; exact H
                                clear H
                                have H := H1
                                clear H1
                                have H' := Aside0.mk H
                                clear H
                                obtain ⟨Ao43, co43, eo43⟩ := Kd.R_slice HO_8.out
                                subst eo43
                                have p388 : 0 ≤ (x9_3 : Int) := of_decide_eq_true (by first | (with_reducible assumption) | assumption)
                                have q388 : x9_3 < (t380.length : Int) := of_decide_eq_true (by first | (with_reducible assumption) | assumption)
                                obtain ⟨ad388, e388, hx388_0⟩ := Kd.at_string (Kd.R_reads' HO_8.out).2.2 x9_3 p388 q388
                                cases e388
                                replace p388 := eq_true p388
                                replace q388 := eq_true q388
                                go_wp2_with (first | ((with_reducible refine gate_callee (f := 33) rfl ?_); refine goesL_ (some 68) rfl rfl Tryd.func33 (by kernel_rfl) rfl #[.string (rdOf ByteArray.empty t380 x9_3)] rfl (by (try simp only [List.map_toArray, List.map_cons, List.map_nil]); first | done | rfl | (simp only [List.length_drop, List.length_take]; rfl)) ?_; (with_reducible refine (wire_Open.calls (rdOf ByteArray.empty t380 x9_3) t389 t390 _ _ (Below.refl _ _) A38.out).mono ?_); rintro e w44 ⟨g391, rfl, hi, hb, hb2⟩; refine ⟨_, rfl, ?_⟩; have n0_ := Aside0.mk (Kd.R_below (by (with_reducible repeat (first | apply Kd.R_alloc | apply Kd.R_drewN | apply Kd.R_drew)); exact HO_8.out) hb2); have n1_ := Aside0.mk (below_step (by repeat (first | (with_reducible first | exact HB.out | apply below_alloc | apply pw_below_drewN | apply below_drew1) | exact HB.out)) hb); have n2_ := Aside0.mk ((show IsS189 w _ g391 t389 t390 from ⟨hi.1, Nat.le_trans (below_size (by repeat (first | (with_reducible first | exact HB.out | apply below_alloc | apply pw_below_drewN | apply below_drew1) | exact HB.out))) hi.2⟩)); clear HO_8; clear HB; have HO_8 := n0_; have HB := n1_; have HI391 := n2_; clear n0_ n1_ n2_; (try clear hb); (try clear hb2); (try clear hk); (try clear hi); have p392 : 0 ≤ (x9_3 : Int) := of_decide_eq_true (by first | (with_reducible assumption) | assumption); have q392 : x9_3 < (l0.length : Int) := of_decide_eq_true (by first | (with_reducible assumption) | assumption); obtain ⟨ad392, A392_3, c392_3, A392_4, c392_4, e392, hx392_0, hx392_1, hx392_2, hx392_3, hx392_4, hl392_3, hi392_3, hl392_4, hi392_4⟩ := at_T25 HR0.out x9_3 p392 q392; cases e392; replace hx392_0 := (HB.out.cell (World.block_lt_of_cell? w _ hx392_0)).trans hx392_0; replace hx392_1 := (HB.out.cell (World.block_lt_of_cell? w _ hx392_1)).trans hx392_1; replace hx392_2 := (HB.out.cell (World.block_lt_of_cell? w _ hx392_2)).trans hx392_2; replace hx392_3 := (HB.out.cell (World.block_lt_of_cell? w _ hx392_3)).trans hx392_3; replace hx392_4 := (HB.out.cell (World.block_lt_of_cell? w _ hx392_4)).trans hx392_4; have HR392_3 := Aside0.mk hi392_3; have HC392_3 := Aside0.mk hl392_3; clear hi392_3 hl392_3; have HR392_4 := Aside0.mk hi392_4; have HC392_4 := Aside0.mk hl392_4; clear hi392_4 hl392_4; replace p392 := eq_true p392; replace q392 := eq_true q392) | (go_at_call 43; (with_reducible refine (taquinlaw01_equal.calls k3 g391 t389 t390 ((rd_T25 l0 x9_3).f0) ((rd_T25 l0 x9_3).f1) ((rd_T25 l0 x9_3).f2) _ _ ((rd_T25 l0 x9_3).f3) _ _ ((rd_T25 l0 x9_3).f4) true t394 t395 w _ ?side1 ?side2 ?side3 ?side4 ?side5 ?side6 ?side7 ?side8 A39.out HT.out).mono ?_); (case side1 => repeat (first | (with_reducible first | exact HI391.out | apply IsS189.alloc | apply IsS189.drewN | apply IsS189.drew | apply IsS189.set_0 | apply IsS189.set_1) | exact HI391.out)); (case side2 => repeat (first | (with_reducible first | exact HB.out | apply below_alloc | apply pw_below_drewN | apply below_drew1 | refine below_set ?_ (IsS189.ge HI391.out)) | exact HB.out)); (case side3 => repeat (first | exact (Kd.C_below HR392_3.out HB.out) | (with_reducible refine Kd.C_alloc ?_ _) | (with_reducible refine Kd.C_drewN ?_ _) | (with_reducible refine Kd.C_drew ?_))); (case side4 => exact HC392_3.out); (case side5 => exact Kd.far_C 0 HR392_3.out (IsS189.ge HI391.out)); (case side6 => repeat (first | exact (Kd.C_below HR392_4.out HB.out) | (with_reducible refine Kd.C_alloc ?_ _) | (with_reducible refine Kd.C_drewN ?_ _) | (with_reducible refine Kd.C_drew ?_))); (case side7 => exact HC392_4.out); (case side8 => exact Kd.far_C (⟨#[]⟩ : ByteArray) HR392_4.out (IsS189.ge HI391.out)); rintro e w45 ⟨rfl, hi, hb, hk⟩; have n0_ := Aside0.mk (Kd.R_mono (Kd.R_keep (IsS189.apart (show IsS189 w _ g391 t389 t390 from by repeat (first | (with_reducible first | exact HI391.out | apply IsS189.alloc | apply IsS189.drewN | apply IsS189.drew | apply IsS189.set_0 | apply IsS189.set_1) | exact HI391.out)) (by (with_reducible repeat (first | apply Kd.R_alloc | apply Kd.R_drewN | apply Kd.R_drew)); exact HO_8.out) (by decide)) hk (fun _ h => h.2)) (fun _ h => h.1)); have n1_ := Aside0.mk (hb); have n2_ := Aside0.mk (hi); clear HO_8; clear HB; clear HI391; have HO_8 := n0_; have HB := n1_; have HI391 := n2_; clear n0_ n1_ n2_; (try clear hb); (try clear hb2); (try clear hk); (try clear hi)) | (go_at_call 41; (with_reducible refine (wire_Reader_Done.calls g391 t394 t395 true t397 t398 w _ ?side1 ?side2 A41.out).mono ?_); (case side1 => repeat (first | (with_reducible first | exact HI391.out | apply IsS189.alloc | apply IsS189.drewN | apply IsS189.drew | apply IsS189.set_0 | apply IsS189.set_1) | exact HI391.out)); (case side2 => repeat (first | (with_reducible first | exact HB.out | apply below_alloc | apply pw_below_drewN | apply below_drew1 | refine below_set ?_ (IsS189.ge HI391.out)) | exact HB.out)); rintro e w46 ⟨rfl, hi, hb, hk⟩; have n0_ := Aside0.mk (Kd.R_mono (Kd.R_keep (IsS189.apart (show IsS189 w _ g391 t394 t395 from by repeat (first | (with_reducible first | exact HI391.out | apply IsS189.alloc | apply IsS189.drewN | apply IsS189.drew | apply IsS189.set_0 | apply IsS189.set_1) | exact HI391.out)) (by (with_reducible repeat (first | apply Kd.R_alloc | apply Kd.R_drewN | apply Kd.R_drew)); exact HO_8.out) (by decide)) hk (fun _ h => h.2)) (fun _ h => h.1)); have n1_ := Aside0.mk (hb); have n2_ := Aside0.mk (hi); clear HO_8; clear HB; clear HI391; have HO_8 := n0_; have HB := n1_; have HI391 := n2_; clear n0_ n1_ n2_; (try clear hb); (try clear hb2); (try clear hk); (try clear hi)))
                                go_roundg k3
                                case measure => have := HK1.out; have := HJ19.out; have := HK3.out; omega
                                case rel => exact ⟨(wrap64 (x9_3 + 1)), (by first | rfl | (simp; done) | (simp [*]; done)), H', ⟨by have := HK1.out; have := HJ19.out; have := HK3.out; omega⟩, ⟨by (with_reducible repeat (first | apply Kd.R_alloc | apply Kd.R_drewN | apply Kd.R_drew)); exact HO_8.out⟩, ⟨by repeat (first | (with_reducible first | exact HB.out | apply below_alloc | apply pw_below_drewN | apply below_drew1 | refine below_set ?_ (IsS189.ge HI391.out)) | exact HB.out)⟩⟩
                              · replace c42 := Bool.eq_false_iff.mpr c42
                                subst c42
                                have H1 : (none) = some r := by rw [if_neg (show ¬ (false = true) by decide)] at H; exact H
                                clear H
                                have H := H1
                                clear H1
                                exact absurd H (by simp)
                            · replace c40 := Bool.eq_false_iff.mpr c40
                              subst c40
                              have H1 : (none) = some r := by rw [if_neg (show ¬ (false = true) by decide)] at H; exact H
                              clear H
                              have H := H1
                              clear H1
                              exact absurd H (by simp)
                          · rw [if_neg c37] at H
                            exact absurd H (by simp)
                        · rw [if_neg c36] at H
                          exact absurd H (by simp)
                      · rw [if_neg c35] at H
                        have c35b0 : decide (x9_3 < (l0.length : Int)) = false := decide_eq_false c35
                        clear c35
                        obtain rfl := Option.some.inj H
                        go_wp2
                        go_ret
                        exact ⟨by first | rfl | (simp [errW_none, errW_some] <;> rfl) | (simp [*, errW_none, errW_some] <;> rfl), by repeat (first | (with_reducible first | exact HB.out | apply below_alloc | apply pw_below_drewN | apply below_drew1) | exact HB.out)⟩
          · replace c18 := Bool.eq_false_iff.mpr c18
            subst c18
            have H1 : (none) = some r := by rw [if_neg (show ¬ (false = true) by decide)] at H; exact H
            clear H
            have H := H1
            clear H1
            exact absurd H (by simp)
  · replace c4 := Bool.eq_false_iff.mpr c4
    subst c4
    have H1 : (some t359) = some r := by rw [if_neg (show ¬ (false = true) by decide)] at H; exact H
    clear H
    have H := H1
    clear H1
    obtain rfl := Option.some.inj H
    go_enter Tryd.func6, Tryd.ntmps6
    go_wp2_with (first | ((with_reducible refine gate_callee (f := 21) rfl ?_); refine goesL_ (some 11) rfl rfl Tryd.func21 (by kernel_rfl) rfl #[] rfl (by (try simp only [List.map_toArray, List.map_cons, List.map_nil]); first | done | rfl | (simp only [List.length_drop, List.length_take]; rfl)) ?_; (with_reducible refine (taquinlaw01_small.calls k  t359 _ A2.out (HT.out.below (by repeat (first | (with_reducible first | exact HB.out | apply below_alloc | apply pw_below_drewN | apply below_drew1) | exact HB.out)))).mono ?_); rintro e w47 ⟨rfl, hb⟩; refine ⟨_, rfl, ?_⟩; have n0_ := Aside0.mk (below_step (by repeat (first | (with_reducible first | exact HB.out | apply below_alloc | apply pw_below_drewN | apply below_drew1) | exact HB.out)) hb); clear HB; have HB := n0_; clear n0_; (try clear hb); (try clear hb2); (try clear hk); (try clear hi)) | ((with_reducible refine gate_callee (f := 22) rfl ?_); refine goesL_ (some 13) rfl rfl Tryd.func22 (by kernel_rfl) rfl #[.slice A0 l0.length c0] rfl (by (try simp only [List.map_toArray, List.map_cons, List.map_nil]); first | done | rfl | (simp only [List.length_drop, List.length_take]; rfl)) ?_; (with_reducible refine (taquinlaw01_few.calls k _ _ l0 false _ ?side1 ?side2 A3.out).mono ?_); (case side1 => repeat (first | exact (Kd.C_below HR0.out HB.out) | (with_reducible refine Kd.C_alloc ?_ _) | (with_reducible refine Kd.C_drewN ?_ _) | (with_reducible refine Kd.C_drew ?_))); (case side2 => exact HC0.out); rintro e w' ⟨rfl, ⟨nd, rfl⟩⟩; refine ⟨_, rfl, ?_⟩))
    go_ret
    exact ⟨by first | rfl | (simp [errW_none, errW_some] <;> rfl) | (simp [*, errW_none, errW_some] <;> rfl), by repeat (first | (with_reducible first | exact HB.out | apply below_alloc | apply pw_below_drewN | apply below_drew1) | exact HB.out)⟩

end Go.Proofs.YtigdjhnpngjhjaaDoor.PWt
