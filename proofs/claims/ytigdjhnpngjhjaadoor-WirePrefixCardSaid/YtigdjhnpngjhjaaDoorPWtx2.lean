-- written by a program of this claim's own (wip/tools/pp.py), after the kit's printer
import Derived.Test.YtigdjhnpngjhjaaDoorPWtx0
import Derived.Test.YtigdjhnpngjhjaaDoorPWtx1
namespace Go.Proofs.YtigdjhnpngjhjaaDoor.PWt
open Go.RowKit Go.Proofs.YtigdjhnpngjhjaaDoorW.PrintWords Go.Proofs.YtigdjhnpngjhjaaDoorW.PrintLast Go.Proofs.YtigdjhnpngjhjaaDoorW.PrintMore
attribute [local go_sem] max2_int min2_int max_two min_two max_three min_three max_four min_four   -- for this text's walks alone
set_option linter.unusedVariables false
set_option linter.unusedSimpArgs false

/-! ### wire_Reader_Done: function 41 -/
def wire_Reader_Done.f (s0_0 : ByteArray) (s0_1 : Bool) : Option (Bool × ByteArray × Bool) := if s0_1 = true then (some (false, s0_0, s0_1)) else (some ((s0_0.toList == ([] : List UInt8)), s0_0, s0_1))
set_option maxHeartbeats 8000000 in
set_option maxRecDepth 100000 in
theorem wire_Reader_Done.calls (g : Nat) (s0_0 : ByteArray) (s0_1 : Bool) (r1 : Bool) (r2 : ByteArray) (r3 : Bool) (w0 w : World) (hI : IsS189 w0 w g s0_0 s0_1) (hB : Below w0.heap.size w0 w) (h : wire_Reader_Done.f s0_0 s0_1 = some (r1, r2, r3)) :
    Calls Tryd.prog 41 #[.pointer (some ⟨g, 0, none⟩)] w fun e w' => e = .returned (.bool r1) ∧ IsS189 w0 w' g r2 r3 ∧ Below w0.heap.size w0 w' ∧ KeepBut w w' g none := by
  have HI0 := Aside0.mk hI
  have HK := Aside0.mk (KeepBut.refl w g none)
  have HL := Aside0.mk hB.size
  clear hI
  have HW0 := Aside0.mk hB.size
  have HB := Aside0.mk hB
  clear hB
  have H : (if s0_1 = true then (some (false, s0_0, s0_1)) else (some ((s0_0.toList == ([] : List UInt8)), s0_0, s0_1))) = some (r1, r2, r3) := h
  clear h
  by_cases c2 : s0_1 = true
  · subst c2
    have H1 : (some (false, s0_0, true)) = some (r1, r2, r3) := by rw [if_pos rfl] at H; exact H
    clear H
    have H := H1
    clear H1
    simp only [Option.some.injEq, Prod.mk.injEq] at H
    obtain ⟨rfl, rfl, rfl⟩ := H
    obtain ⟨HGz3, hgz3⟩ := HI0.out
    have hcz3_0 := cellS189_0 HGz3
    have hcz3_1 := cellS189_1 HGz3
    have hfz3_0 := blk_frozen HGz3 0
    have hfz3_1 := blk_frozen HGz3 1
    clear HGz3 hgz3
    go_enter Tryd.func41, Tryd.ntmps41
    go_wp2
    go_ret
    exact ⟨by first | rfl | (simp [errW_none, errW_some] <;> rfl) | (simp [*, errW_none, errW_some] <;> rfl), by repeat (first | (with_reducible first | exact HI0.out | apply IsS189.alloc | apply IsS189.drewN | apply IsS189.drew | apply IsS189.set_0 | apply IsS189.set_1) | exact HI0.out), by repeat (first | (with_reducible first | exact HB.out | apply below_alloc | apply pw_below_drewN | apply below_drew1 | refine below_set ?_ (IsS189.ge HI0.out)) | exact HB.out), by repeat (first | (with_reducible first | exact HK.out | apply KeepBut.set_ | apply keep_drewN | apply keep_drew | apply keep_alloc) | exact HK.out)⟩
  · replace c2 := Bool.eq_false_iff.mpr c2
    subst c2
    have H1 : (some ((s0_0.toList == ([] : List UInt8)), s0_0, false)) = some (r1, r2, r3) := by rw [if_neg (show ¬ (false = true) by decide)] at H; exact H
    clear H
    have H := H1
    clear H1
    simp only [Option.some.injEq, Prod.mk.injEq] at H
    obtain ⟨rfl, rfl, rfl⟩ := H
    obtain ⟨HGz4, hgz4⟩ := HI0.out
    have hcz4_0 := cellS189_0 HGz4
    have hcz4_1 := cellS189_1 HGz4
    have hfz4_0 := blk_frozen HGz4 0
    have hfz4_1 := blk_frozen HGz4 1
    clear HGz4 hgz4
    go_enter Tryd.func41, Tryd.ntmps41
    go_wp2
    go_ret
    exact ⟨by first | rfl | (simp [errW_none, errW_some] <;> rfl) | (simp [*, errW_none, errW_some] <;> rfl), by repeat (first | (with_reducible first | exact HI0.out | apply IsS189.alloc | apply IsS189.drewN | apply IsS189.drew | apply IsS189.set_0 | apply IsS189.set_1) | exact HI0.out), by repeat (first | (with_reducible first | exact HB.out | apply below_alloc | apply pw_below_drewN | apply below_drew1 | refine below_set ?_ (IsS189.ge HI0.out)) | exact HB.out), by repeat (first | (with_reducible first | exact HK.out | apply KeepBut.set_ | apply keep_drewN | apply keep_drew | apply keep_alloc) | exact HK.out)⟩

/-! ### taquinlaw01_small: function 21 -/
mutual
def taquinlaw01_small.j0 : Nat → Bool → Option (Bool)
  | 0, _ => none
  | k + 1, x1 => (wire_Text.f (⟨#[97, 44, 98]⟩ : ByteArray)).bind fun t112 => (if t112.toList = ([51, 58, 97, 44, 98, 44] : List UInt8) then ((wire_Nums.f (([1, (-1)] : List Int))).bind fun t116 => (if t116.toList = ([50, 91, 49, 59, 45, 49, 59, 93] : List UInt8) then ((wire_Texts.f ([] : List ByteArray)).bind fun t117 => (taquinlaw01_small.j1 k x1 (t117.toList == ([48, 91, 93] : List UInt8)))) else (taquinlaw01_small.j1 k x1 false))) else (taquinlaw01_small.j1 k x1 false))
def taquinlaw01_small.j1 : Nat → Bool → Bool → Option (Bool)
  | 0, _, _ => none
  | k + 1, x1, x2 => (wire_Open.f (⟨#[48, 48, 55, 59]⟩ : ByteArray)).bind fun bt118 => ((wire_Reader_Num.f bt118.1 bt118.2).bind fun bt121 => (if x1 = true then (if x2 = true then (if bt121.1 = 0 then ((wire_Reader_Left.f bt121.2.1 bt121.2.2).bind fun bt124 => (if bt124.1 = 0 then ((wire_Reader_Done.f bt124.2.1 bt124.2.2).bind fun bt127 => (some (!bt127.1))) else (none))) else (none)) else (none)) else (none)))
end
def taquinlaw01_small.f (k : Nat)  : Option (Bool) := (wire_Num.f 0).bind fun t107 => (if t107.toList = ([48, 59] : List UInt8) then ((wire_Num.f 300).bind fun t108 => (if t108.toList = ([51, 48, 48, 59] : List UInt8) then ((wire_Num.f (-1)).bind fun t109 => (if t109.toList = ([] : List UInt8) then ((wire_Int.f (-7)).bind fun t110 => (if t110.toList = ([45, 55, 59] : List UInt8) then ((wire_Int.f 7).bind fun t111 => (taquinlaw01_small.j0 k (t111.toList == ([55, 59] : List UInt8)))) else (taquinlaw01_small.j0 k false))) else (taquinlaw01_small.j0 k false))) else (taquinlaw01_small.j0 k false))) else (taquinlaw01_small.j0 k false))
theorem taquinlaw01_small.mono_l : ∀ k, (∀ y0, LeO (taquinlaw01_small.j0 k y0) (taquinlaw01_small.j0 (k + 1) y0)) ∧ (∀ y0 y1, LeO (taquinlaw01_small.j1 k y0 y1) (taquinlaw01_small.j1 (k + 1) y0 y1))
  | 0 => ⟨fun _ r h => by simp [taquinlaw01_small.j0] at h, fun _ _ r h => by simp [taquinlaw01_small.j1] at h⟩
  | k + 1 => by
    obtain ⟨ih0, ih1⟩ := taquinlaw01_small.mono_l k
    refine ⟨?_, ?_⟩
    · intro y0
      unfold taquinlaw01_small.j0
      repeat' first
      | (with_reducible exact ih0 _)
      | (with_reducible exact ih1 _ _)
      | (with_reducible exact LeO.refl _)
      | (with_reducible exact LeO.none _)
      | (with_reducible refine LeO.ite ?_ ?_)
      | (with_reducible refine LeO.bind ?_ (fun _ => ?_))
      | exact ih0 _
      | exact ih1 _ _
      | exact LeO.none _
      | refine LeO.ite ?_ ?_
      | refine LeO.bind ?_ (fun _ => ?_)
    · intro y0 y1
      unfold taquinlaw01_small.j1
      repeat' first
      | (with_reducible exact ih0 _)
      | (with_reducible exact ih1 _ _)
      | (with_reducible exact LeO.refl _)
      | (with_reducible exact LeO.none _)
      | (with_reducible refine LeO.ite ?_ ?_)
      | (with_reducible refine LeO.bind ?_ (fun _ => ?_))
      | exact ih0 _
      | exact ih1 _ _
      | exact LeO.none _
      | refine LeO.ite ?_ ?_
      | refine LeO.bind ?_ (fun _ => ?_)
theorem taquinlaw01_small.mono : ∀ k, LeO (taquinlaw01_small.f k ) (taquinlaw01_small.f (k + 1) ) := by
  intro  k
  obtain ⟨ih0, ih1⟩ := taquinlaw01_small.mono_l k
  unfold taquinlaw01_small.f
  repeat' first
      | (with_reducible exact ih0 _)
      | (with_reducible exact ih1 _ _)
      | (with_reducible exact LeO.refl _)
      | (with_reducible exact LeO.none _)
      | (with_reducible refine LeO.ite ?_ ?_)
      | (with_reducible refine LeO.bind ?_ (fun _ => ?_))
      | exact ih0 _
      | exact ih1 _ _
      | exact LeO.none _
      | refine LeO.ite ?_ ?_
      | refine LeO.bind ?_ (fun _ => ?_)
set_option maxHeartbeats 8000000 in
set_option maxRecDepth 100000 in
theorem taquinlaw01_small.calls (k : Nat)  (r : Bool) (w : World) (h : taquinlaw01_small.f k  = some r) (hT : Tabs w) :
    Calls Tryd.prog 21 #[] w fun e w' => e = .returned (.bool r) ∧ Below w.heap.size w w' := by
  have HT := Aside0.mk hT
  clear hT
  have HB := Aside0.mk (Below.refl w.heap.size w)
  have H : ((wire_Num.f 0).bind fun t107 => (if t107.toList = ([48, 59] : List UInt8) then ((wire_Num.f 300).bind fun t108 => (if t108.toList = ([51, 48, 48, 59] : List UInt8) then ((wire_Num.f (-1)).bind fun t109 => (if t109.toList = ([] : List UInt8) then ((wire_Int.f (-7)).bind fun t110 => (if t110.toList = ([45, 55, 59] : List UInt8) then ((wire_Int.f 7).bind fun t111 => (taquinlaw01_small.j0 k (t111.toList == ([55, 59] : List UInt8)))) else (taquinlaw01_small.j0 k false))) else (taquinlaw01_small.j0 k false))) else (taquinlaw01_small.j0 k false))) else (taquinlaw01_small.j0 k false))) = some r := h
  clear h
  have HC1 := Aside0.mk H
  clear H
  go_enter Tryd.func21, Tryd.ntmps21
  go_upto_region 1 with (fail)
  go_cut [1] (fun v1 wc => ∃ (kq : Nat) (x1_0 : Bool), v1 = .bool x1_0 ∧ Aside0 (taquinlaw01_small.j0 kq x1_0 = some r) ∧ Aside0 (kq ≤ k) ∧ Aside0 (Below w.heap.size w wc))
  case first =>
    have H := HC1.out
    clear HC1
    replace H := Option.bind_eq_some_iff.mp H
    obtain ⟨t107, A20, H⟩ := H
    replace H : (if t107.toList = ([48, 59] : List UInt8) then ((wire_Num.f 300).bind fun t108 => (if t108.toList = ([51, 48, 48, 59] : List UInt8) then ((wire_Num.f (-1)).bind fun t109 => (if t109.toList = ([] : List UInt8) then ((wire_Int.f (-7)).bind fun t110 => (if t110.toList = ([45, 55, 59] : List UInt8) then ((wire_Int.f 7).bind fun t111 => (taquinlaw01_small.j0 k (t111.toList == ([55, 59] : List UInt8)))) else (taquinlaw01_small.j0 k false))) else (taquinlaw01_small.j0 k false))) else (taquinlaw01_small.j0 k false))) else (taquinlaw01_small.j0 k false)) = some r := H
    have A2 := Aside0.mk A20
    clear A20
    by_cases c3 : t107.toList = ([48, 59] : List UInt8)
    · rw [if_pos c3] at H
      have c3b0 : (t107.toList == ([48, 59] : List UInt8)) = true := beq_iff_eq.mpr c3
      have c3b1 : (t107.toList != ([48, 59] : List UInt8)) = false := bne_eq_false_iff_eq.mpr c3
      clear c3
      (first | rw [c3b0] | (simp only [i64_w, i32_w]; rw [c3b0]) | skip)
      replace H := Option.bind_eq_some_iff.mp H
      obtain ⟨t108, A40, H⟩ := H
      replace H : (if t108.toList = ([51, 48, 48, 59] : List UInt8) then ((wire_Num.f (-1)).bind fun t109 => (if t109.toList = ([] : List UInt8) then ((wire_Int.f (-7)).bind fun t110 => (if t110.toList = ([45, 55, 59] : List UInt8) then ((wire_Int.f 7).bind fun t111 => (taquinlaw01_small.j0 k (t111.toList == ([55, 59] : List UInt8)))) else (taquinlaw01_small.j0 k false))) else (taquinlaw01_small.j0 k false))) else (taquinlaw01_small.j0 k false)) = some r := H
      have A4 := Aside0.mk A40
      clear A40
      by_cases c5 : t108.toList = ([51, 48, 48, 59] : List UInt8)
      · rw [if_pos c5] at H
        have c5b0 : (t108.toList == ([51, 48, 48, 59] : List UInt8)) = true := beq_iff_eq.mpr c5
        have c5b1 : (t108.toList != ([51, 48, 48, 59] : List UInt8)) = false := bne_eq_false_iff_eq.mpr c5
        clear c5
        replace H := Option.bind_eq_some_iff.mp H
        obtain ⟨t109, A60, H⟩ := H
        replace H : (if t109.toList = ([] : List UInt8) then ((wire_Int.f (-7)).bind fun t110 => (if t110.toList = ([45, 55, 59] : List UInt8) then ((wire_Int.f 7).bind fun t111 => (taquinlaw01_small.j0 k (t111.toList == ([55, 59] : List UInt8)))) else (taquinlaw01_small.j0 k false))) else (taquinlaw01_small.j0 k false)) = some r := H
        have A6 := Aside0.mk A60
        clear A60
        by_cases c7 : t109.toList = ([] : List UInt8)
        · rw [if_pos c7] at H
          have c7b0 : (t109.toList == ([] : List UInt8)) = true := beq_iff_eq.mpr c7
          have c7b1 : (t109.toList != ([] : List UInt8)) = false := bne_eq_false_iff_eq.mpr c7
          clear c7
          replace H := Option.bind_eq_some_iff.mp H
          obtain ⟨t110, A80, H⟩ := H
          replace H : (if t110.toList = ([45, 55, 59] : List UInt8) then ((wire_Int.f 7).bind fun t111 => (taquinlaw01_small.j0 k (t111.toList == ([55, 59] : List UInt8)))) else (taquinlaw01_small.j0 k false)) = some r := H
          have A8 := Aside0.mk A80
          clear A80
          by_cases c9 : t110.toList = ([45, 55, 59] : List UInt8)
          · rw [if_pos c9] at H
            have c9b0 : (t110.toList == ([45, 55, 59] : List UInt8)) = true := beq_iff_eq.mpr c9
            have c9b1 : (t110.toList != ([45, 55, 59] : List UInt8)) = false := bne_eq_false_iff_eq.mpr c9
            clear c9
            replace H := Option.bind_eq_some_iff.mp H
            obtain ⟨t111, A100, H⟩ := H
            replace H : (taquinlaw01_small.j0 k (t111.toList == ([55, 59] : List UInt8))) = some r := H
            have A10 := Aside0.mk A100
            clear A100
            have H' := Aside0.mk H
            clear H
            go_wp2_with (first | ((with_reducible refine gate_callee (f := 23) rfl ?_); refine goesL_ (some 5) rfl rfl Tryd.func23 (by kernel_rfl) rfl #[.int .i64 0] rfl (by (try simp only [List.map_toArray, List.map_cons, List.map_nil]); first | done | rfl | (simp only [List.length_drop, List.length_take]; rfl)) ?_; (with_reducible refine (wire_Num.calls 0 t107 _ A2.out (HT.out.below (by repeat (first | (with_reducible first | exact HB.out | apply below_alloc | apply pw_below_drewN | apply below_drew1) | exact HB.out)))).mono ?_); rintro e w11 ⟨rfl, hb⟩; refine ⟨_, rfl, ?_⟩; have n0_ := Aside0.mk (below_step (by repeat (first | (with_reducible first | exact HB.out | apply below_alloc | apply pw_below_drewN | apply below_drew1) | exact HB.out)) hb); clear HB; have HB := n0_; clear n0_; (try clear hb); (try clear hb2); (try clear hk); (try clear hi)) | (go_at_call 23; (with_reducible refine (wire_Num.calls 300 t108 _ A4.out (HT.out.below (by repeat (first | (with_reducible first | exact HB.out | apply below_alloc | apply pw_below_drewN | apply below_drew1) | exact HB.out)))).mono ?_); rintro e w12 ⟨rfl, hb⟩; have n0_ := Aside0.mk (below_step (by repeat (first | (with_reducible first | exact HB.out | apply below_alloc | apply pw_below_drewN | apply below_drew1) | exact HB.out)) hb); clear HB; have HB := n0_; clear n0_; (try clear hb); (try clear hb2); (try clear hk); (try clear hi)) | (go_at_call 23; (with_reducible refine (wire_Num.calls (-1) t109 _ A6.out (HT.out.below (by repeat (first | (with_reducible first | exact HB.out | apply below_alloc | apply pw_below_drewN | apply below_drew1) | exact HB.out)))).mono ?_); rintro e w13 ⟨rfl, hb⟩; have n0_ := Aside0.mk (below_step (by repeat (first | (with_reducible first | exact HB.out | apply below_alloc | apply pw_below_drewN | apply below_drew1) | exact HB.out)) hb); clear HB; have HB := n0_; clear n0_; (try clear hb); (try clear hb2); (try clear hk); (try clear hi)) | (go_at_call 25; (with_reducible refine (wire_Int.calls (-7) t110 _ A8.out (HT.out.below (by repeat (first | (with_reducible first | exact HB.out | apply below_alloc | apply pw_below_drewN | apply below_drew1) | exact HB.out)))).mono ?_); rintro e w14 ⟨rfl, hb⟩; have n0_ := Aside0.mk (below_step (by repeat (first | (with_reducible first | exact HB.out | apply below_alloc | apply pw_below_drewN | apply below_drew1) | exact HB.out)) hb); clear HB; have HB := n0_; clear n0_; (try clear hb); (try clear hb2); (try clear hk); (try clear hi)) | (go_at_call 25; (with_reducible refine (wire_Int.calls 7 t111 _ A10.out (HT.out.below (by repeat (first | (with_reducible first | exact HB.out | apply below_alloc | apply pw_below_drewN | apply below_drew1) | exact HB.out)))).mono ?_); rintro e w15 ⟨rfl, hb⟩; have n0_ := Aside0.mk (below_step (by repeat (first | (with_reducible first | exact HB.out | apply below_alloc | apply pw_below_drewN | apply below_drew1) | exact HB.out)) hb); clear HB; have HB := n0_; clear n0_; (try clear hb); (try clear hb2); (try clear hk); (try clear hi)))
            go_meet
            case rel => exact ⟨_, ((t111.toList == ([55, 59] : List UInt8))), (by first | rfl | (simp; done) | (simp [*]; done)), H', ⟨by first | omega | exact Nat.le_refl _⟩, ⟨by repeat (first | (with_reducible first | exact HB.out | apply below_alloc | apply pw_below_drewN | apply below_drew1) | exact HB.out)⟩⟩
          · rw [if_neg c9] at H
            have c9b0 : (t110.toList == ([45, 55, 59] : List UInt8)) = false := beq_eq_false_iff_ne.mpr c9
            have c9b1 : (t110.toList != ([45, 55, 59] : List UInt8)) = true := bne_iff_ne.mpr c9
            have H' := Aside0.mk H
            clear H
            go_wp2_with (first | ((with_reducible refine gate_callee (f := 23) rfl ?_); refine goesL_ (some 5) rfl rfl Tryd.func23 (by kernel_rfl) rfl #[.int .i64 0] rfl (by (try simp only [List.map_toArray, List.map_cons, List.map_nil]); first | done | rfl | (simp only [List.length_drop, List.length_take]; rfl)) ?_; (with_reducible refine (wire_Num.calls 0 t107 _ A2.out (HT.out.below (by repeat (first | (with_reducible first | exact HB.out | apply below_alloc | apply pw_below_drewN | apply below_drew1) | exact HB.out)))).mono ?_); rintro e w16 ⟨rfl, hb⟩; refine ⟨_, rfl, ?_⟩; have n0_ := Aside0.mk (below_step (by repeat (first | (with_reducible first | exact HB.out | apply below_alloc | apply pw_below_drewN | apply below_drew1) | exact HB.out)) hb); clear HB; have HB := n0_; clear n0_; (try clear hb); (try clear hb2); (try clear hk); (try clear hi)) | (go_at_call 23; (with_reducible refine (wire_Num.calls 300 t108 _ A4.out (HT.out.below (by repeat (first | (with_reducible first | exact HB.out | apply below_alloc | apply pw_below_drewN | apply below_drew1) | exact HB.out)))).mono ?_); rintro e w17 ⟨rfl, hb⟩; have n0_ := Aside0.mk (below_step (by repeat (first | (with_reducible first | exact HB.out | apply below_alloc | apply pw_below_drewN | apply below_drew1) | exact HB.out)) hb); clear HB; have HB := n0_; clear n0_; (try clear hb); (try clear hb2); (try clear hk); (try clear hi)) | (go_at_call 23; (with_reducible refine (wire_Num.calls (-1) t109 _ A6.out (HT.out.below (by repeat (first | (with_reducible first | exact HB.out | apply below_alloc | apply pw_below_drewN | apply below_drew1) | exact HB.out)))).mono ?_); rintro e w18 ⟨rfl, hb⟩; have n0_ := Aside0.mk (below_step (by repeat (first | (with_reducible first | exact HB.out | apply below_alloc | apply pw_below_drewN | apply below_drew1) | exact HB.out)) hb); clear HB; have HB := n0_; clear n0_; (try clear hb); (try clear hb2); (try clear hk); (try clear hi)) | (go_at_call 25; (with_reducible refine (wire_Int.calls (-7) t110 _ A8.out (HT.out.below (by repeat (first | (with_reducible first | exact HB.out | apply below_alloc | apply pw_below_drewN | apply below_drew1) | exact HB.out)))).mono ?_); rintro e w19 ⟨rfl, hb⟩; have n0_ := Aside0.mk (below_step (by repeat (first | (with_reducible first | exact HB.out | apply below_alloc | apply pw_below_drewN | apply below_drew1) | exact HB.out)) hb); clear HB; have HB := n0_; clear n0_; (try clear hb); (try clear hb2); (try clear hk); (try clear hi)))
            go_meet
            case rel => exact ⟨_, (false), (by first | rfl | (simp; done) | (simp [*]; done)), H', ⟨by first | omega | exact Nat.le_refl _⟩, ⟨by repeat (first | (with_reducible first | exact HB.out | apply below_alloc | apply pw_below_drewN | apply below_drew1) | exact HB.out)⟩⟩
        · rw [if_neg c7] at H
          have c7b0 : (t109.toList == ([] : List UInt8)) = false := beq_eq_false_iff_ne.mpr c7
          have c7b1 : (t109.toList != ([] : List UInt8)) = true := bne_iff_ne.mpr c7
          have H' := Aside0.mk H
          clear H
          go_wp2_with (first | ((with_reducible refine gate_callee (f := 23) rfl ?_); refine goesL_ (some 5) rfl rfl Tryd.func23 (by kernel_rfl) rfl #[.int .i64 0] rfl (by (try simp only [List.map_toArray, List.map_cons, List.map_nil]); first | done | rfl | (simp only [List.length_drop, List.length_take]; rfl)) ?_; (with_reducible refine (wire_Num.calls 0 t107 _ A2.out (HT.out.below (by repeat (first | (with_reducible first | exact HB.out | apply below_alloc | apply pw_below_drewN | apply below_drew1) | exact HB.out)))).mono ?_); rintro e w20 ⟨rfl, hb⟩; refine ⟨_, rfl, ?_⟩; have n0_ := Aside0.mk (below_step (by repeat (first | (with_reducible first | exact HB.out | apply below_alloc | apply pw_below_drewN | apply below_drew1) | exact HB.out)) hb); clear HB; have HB := n0_; clear n0_; (try clear hb); (try clear hb2); (try clear hk); (try clear hi)) | (go_at_call 23; (with_reducible refine (wire_Num.calls 300 t108 _ A4.out (HT.out.below (by repeat (first | (with_reducible first | exact HB.out | apply below_alloc | apply pw_below_drewN | apply below_drew1) | exact HB.out)))).mono ?_); rintro e w21 ⟨rfl, hb⟩; have n0_ := Aside0.mk (below_step (by repeat (first | (with_reducible first | exact HB.out | apply below_alloc | apply pw_below_drewN | apply below_drew1) | exact HB.out)) hb); clear HB; have HB := n0_; clear n0_; (try clear hb); (try clear hb2); (try clear hk); (try clear hi)) | (go_at_call 23; (with_reducible refine (wire_Num.calls (-1) t109 _ A6.out (HT.out.below (by repeat (first | (with_reducible first | exact HB.out | apply below_alloc | apply pw_below_drewN | apply below_drew1) | exact HB.out)))).mono ?_); rintro e w22 ⟨rfl, hb⟩; have n0_ := Aside0.mk (below_step (by repeat (first | (with_reducible first | exact HB.out | apply below_alloc | apply pw_below_drewN | apply below_drew1) | exact HB.out)) hb); clear HB; have HB := n0_; clear n0_; (try clear hb); (try clear hb2); (try clear hk); (try clear hi)))
          go_meet
          case rel => exact ⟨_, (false), (by first | rfl | (simp; done) | (simp [*]; done)), H', ⟨by first | omega | exact Nat.le_refl _⟩, ⟨by repeat (first | (with_reducible first | exact HB.out | apply below_alloc | apply pw_below_drewN | apply below_drew1) | exact HB.out)⟩⟩
      · rw [if_neg c5] at H
        have c5b0 : (t108.toList == ([51, 48, 48, 59] : List UInt8)) = false := beq_eq_false_iff_ne.mpr c5
        have c5b1 : (t108.toList != ([51, 48, 48, 59] : List UInt8)) = true := bne_iff_ne.mpr c5
        have H' := Aside0.mk H
        clear H
        go_wp2_with (first | ((with_reducible refine gate_callee (f := 23) rfl ?_); refine goesL_ (some 5) rfl rfl Tryd.func23 (by kernel_rfl) rfl #[.int .i64 0] rfl (by (try simp only [List.map_toArray, List.map_cons, List.map_nil]); first | done | rfl | (simp only [List.length_drop, List.length_take]; rfl)) ?_; (with_reducible refine (wire_Num.calls 0 t107 _ A2.out (HT.out.below (by repeat (first | (with_reducible first | exact HB.out | apply below_alloc | apply pw_below_drewN | apply below_drew1) | exact HB.out)))).mono ?_); rintro e w23 ⟨rfl, hb⟩; refine ⟨_, rfl, ?_⟩; have n0_ := Aside0.mk (below_step (by repeat (first | (with_reducible first | exact HB.out | apply below_alloc | apply pw_below_drewN | apply below_drew1) | exact HB.out)) hb); clear HB; have HB := n0_; clear n0_; (try clear hb); (try clear hb2); (try clear hk); (try clear hi)) | (go_at_call 23; (with_reducible refine (wire_Num.calls 300 t108 _ A4.out (HT.out.below (by repeat (first | (with_reducible first | exact HB.out | apply below_alloc | apply pw_below_drewN | apply below_drew1) | exact HB.out)))).mono ?_); rintro e w24 ⟨rfl, hb⟩; have n0_ := Aside0.mk (below_step (by repeat (first | (with_reducible first | exact HB.out | apply below_alloc | apply pw_below_drewN | apply below_drew1) | exact HB.out)) hb); clear HB; have HB := n0_; clear n0_; (try clear hb); (try clear hb2); (try clear hk); (try clear hi)))
        go_meet
        case rel => exact ⟨_, (false), (by first | rfl | (simp; done) | (simp [*]; done)), H', ⟨by first | omega | exact Nat.le_refl _⟩, ⟨by repeat (first | (with_reducible first | exact HB.out | apply below_alloc | apply pw_below_drewN | apply below_drew1) | exact HB.out)⟩⟩
    · rw [if_neg c3] at H
      have c3b0 : (t107.toList == ([48, 59] : List UInt8)) = false := beq_eq_false_iff_ne.mpr c3
      have c3b1 : (t107.toList != ([48, 59] : List UInt8)) = true := bne_iff_ne.mpr c3
      (first | rw [c3b0] | (simp only [i64_w, i32_w]; rw [c3b0]) | skip)
      have H' := Aside0.mk H
      clear H
      go_wp2_with (first | ((with_reducible refine gate_callee (f := 23) rfl ?_); refine goesL_ (some 5) rfl rfl Tryd.func23 (by kernel_rfl) rfl #[.int .i64 0] rfl (by (try simp only [List.map_toArray, List.map_cons, List.map_nil]); first | done | rfl | (simp only [List.length_drop, List.length_take]; rfl)) ?_; (with_reducible refine (wire_Num.calls 0 t107 _ A2.out (HT.out.below (by repeat (first | (with_reducible first | exact HB.out | apply below_alloc | apply pw_below_drewN | apply below_drew1) | exact HB.out)))).mono ?_); rintro e w25 ⟨rfl, hb⟩; refine ⟨_, rfl, ?_⟩; have n0_ := Aside0.mk (below_step (by repeat (first | (with_reducible first | exact HB.out | apply below_alloc | apply pw_below_drewN | apply below_drew1) | exact HB.out)) hb); clear HB; have HB := n0_; clear n0_; (try clear hb); (try clear hb2); (try clear hk); (try clear hi)))
      go_meet
      case rel => exact ⟨_, (false), (by first | rfl | (simp; done) | (simp [*]; done)), H', ⟨by first | omega | exact Nat.le_refl _⟩, ⟨by repeat (first | (with_reducible first | exact HB.out | apply below_alloc | apply pw_below_drewN | apply below_drew1) | exact HB.out)⟩⟩
  case rest =>
    clear HC1
    try clear c2
    try clear p2
    try clear c3
    try clear c3b0
    try clear c3b1
    try clear c5
    try clear c5b0
    try clear c5b1
    try clear c7
    try clear c7b0
    try clear c7b1
    try clear c9
    try clear c9b0
    try clear c9b1
    try clear c21
    try clear c23
    obtain ⟨kq, x1_0, rfl, HA, HJ0, HB⟩ := hcut
    cases kq with
    | zero => exact absurd HA.out (by simp [taquinlaw01_small.j0])
    | succ kj0 =>
      have H := HA.out
      clear HA
      simp only [taquinlaw01_small.j0] at H
      have HC26 := Aside0.mk H
      clear H
      go_upto_region 2 with (fail)
      go_cut [2] (fun v2 wc => ∃ (kq : Nat) (x2_25 : Bool), v2 = .bool x2_25 ∧ Aside0 (taquinlaw01_small.j1 kq x1_0 x2_25 = some r) ∧ Aside0 (kq ≤ kj0) ∧ Aside0 (Below w.heap.size w wc))
      case first =>
        have H := HC26.out
        clear HC26
        replace H := Option.bind_eq_some_iff.mp H
        obtain ⟨t112, A270, H⟩ := H
        replace H : (if t112.toList = ([51, 58, 97, 44, 98, 44] : List UInt8) then ((wire_Nums.f (([1, (-1)] : List Int))).bind fun t116 => (if t116.toList = ([50, 91, 49, 59, 45, 49, 59, 93] : List UInt8) then ((wire_Texts.f ([] : List ByteArray)).bind fun t117 => (taquinlaw01_small.j1 kj0 x1_0 (t117.toList == ([48, 91, 93] : List UInt8)))) else (taquinlaw01_small.j1 kj0 x1_0 false))) else (taquinlaw01_small.j1 kj0 x1_0 false)) = some r := H
        have A27 := Aside0.mk A270
        clear A270
        by_cases c28 : t112.toList = ([51, 58, 97, 44, 98, 44] : List UInt8)
        · rw [if_pos c28] at H
          have c28b0 : (t112.toList == ([51, 58, 97, 44, 98, 44] : List UInt8)) = true := beq_iff_eq.mpr c28
          have c28b1 : (t112.toList != ([51, 58, 97, 44, 98, 44] : List UInt8)) = false := bne_eq_false_iff_eq.mpr c28
          clear c28
          (first | rw [c28b0] | (simp only [i64_w, i32_w]; rw [c28b0]) | skip)
          obtain ⟨y113, hy113⟩ : ∃ y_ : List Int, y_ = (([1, (-1)] : List Int)) := ⟨_, rfl⟩
          replace H : ((wire_Nums.f y113).bind fun t116 => (if t116.toList = ([50, 91, 49, 59, 45, 49, 59, 93] : List UInt8) then ((wire_Texts.f ([] : List ByteArray)).bind fun t117 => (taquinlaw01_small.j1 kj0 x1_0 (t117.toList == ([48, 91, 93] : List UInt8)))) else (taquinlaw01_small.j1 kj0 x1_0 false))) = some r := by first | (rw [hy113]; with_reducible exact H) | (have H2_ := (Option.bind_some _ _).symm.trans H; rw [hy113]; with_reducible exact H2_) | (have H2_ := (Option.bind_some _ _).symm.trans H; with_reducible exact H2_) | with_reducible exact H | (rw [hy113]; exact H) | exact H
          have Ny113 := Aside0.mk hy113
          clear hy113
          replace H := Option.bind_eq_some_iff.mp H
          obtain ⟨t116, A290, H⟩ := H
          replace H : (if t116.toList = ([50, 91, 49, 59, 45, 49, 59, 93] : List UInt8) then ((wire_Texts.f ([] : List ByteArray)).bind fun t117 => (taquinlaw01_small.j1 kj0 x1_0 (t117.toList == ([48, 91, 93] : List UInt8)))) else (taquinlaw01_small.j1 kj0 x1_0 false)) = some r := H
          have A29 := Aside0.mk A290
          clear A290
          by_cases c30 : t116.toList = ([50, 91, 49, 59, 45, 49, 59, 93] : List UInt8)
          · rw [if_pos c30] at H
            have c30b0 : (t116.toList == ([50, 91, 49, 59, 45, 49, 59, 93] : List UInt8)) = true := beq_iff_eq.mpr c30
            have c30b1 : (t116.toList != ([50, 91, 49, 59, 45, 49, 59, 93] : List UInt8)) = false := bne_eq_false_iff_eq.mpr c30
            clear c30
            replace H := Option.bind_eq_some_iff.mp H
            obtain ⟨t117, A310, H⟩ := H
            replace H : (taquinlaw01_small.j1 kj0 x1_0 (t117.toList == ([48, 91, 93] : List UInt8))) = some r := H
            have A31 := Aside0.mk A310
            clear A310
            have H' := Aside0.mk H
            clear H
            go_wp2_with (first | ((with_reducible refine gate_callee (f := 27) rfl ?_); refine goesL_ (some 23) rfl rfl Tryd.func27 (by kernel_rfl) rfl #[.string (⟨#[97, 44, 98]⟩ : ByteArray)] rfl (by (try simp only [List.map_toArray, List.map_cons, List.map_nil]); first | done | rfl | (simp only [List.length_drop, List.length_take]; rfl)) ?_; (with_reducible refine (wire_Text.calls (⟨#[97, 44, 98]⟩ : ByteArray) t112 _ A27.out (HT.out.below (by repeat (first | (with_reducible first | exact HB.out | apply below_alloc | apply pw_below_drewN | apply below_drew1) | exact HB.out)))).mono ?_); rintro e w32 ⟨rfl, hb⟩; refine ⟨_, rfl, ?_⟩; have n0_ := Aside0.mk (below_step (by repeat (first | (with_reducible first | exact HB.out | apply below_alloc | apply pw_below_drewN | apply below_drew1) | exact HB.out)) hb); clear HB; have HB := n0_; clear n0_; (try clear hb); (try clear hb2); (try clear hk); (try clear hi)) | ((with_reducible refine gate_dst (N := 26) rfl ?_); (try (refine gate_guard (by rfl) ?_; dsimp only)); refine Kd.R_lit (Kd.int .i64) _ 3 ?hg (N := 26) ?hd (xs := ([1, (-1)] : List Int)) (inner := [.int .i64 1, .int .i64 (-1)]) (ok := fun _ => True) (okp := fun _ => True) ?hr ?hp (fun _ hk => hk) trivial (Below.refl _ _) (Nat.le_refl _) (by simp) ?_; (case hd => rfl); (case hg => rfl); (case hr => first | (go_simp; done) | (go_simp; rfl)); (case hp => exact (Reps.one (show Kd.M (Kd.int .i64) _ _ _ 1 [.int .i64 1] from rfl) (Reps.one (show Kd.M (Kd.int .i64) _ _ _ (-1) [.int .i64 (-1)] from rfl) (Reps.none _ _)))); intro v114 w33 ho34 hb hg_ hnew_; clear hg_ hnew_; (first | rw [← Ny113.out] at ho34 | (simp only [Int.reduceToNat] at ho34; rw [← Ny113.out] at ho34)); have n0_ := Aside0.mk (Kd.R_lower ho34 (below_size (by repeat (first | (with_reducible first | exact HB.out | apply below_alloc | apply pw_below_drewN | apply below_drew1) | exact HB.out)))); have n1_ := Aside0.mk (below_step (by repeat (first | (with_reducible first | exact HB.out | apply below_alloc | apply pw_below_drewN | apply below_drew1) | exact HB.out)) hb); clear HB; have HO115 := n0_; have HB := n1_; clear n0_ n1_; clear hb ho34; obtain ⟨Ao35, co35, eo35⟩ := Kd.R_slice HO115.out; subst eo35) | (go_at_call 29; (with_reducible refine (wire_Nums.calls _ _ y113 t116 _ ?side1 ?side2 A29.out (HT.out.below (by repeat (first | (with_reducible first | exact HB.out | apply below_alloc | apply pw_below_drewN | apply below_drew1) | exact HB.out)))).mono ?_); (case side1 => repeat (first | exact (Kd.R_reads' HO115.out).2.2 | (with_reducible refine Kd.C_alloc ?_ _) | (with_reducible refine Kd.C_drewN ?_ _) | (with_reducible refine Kd.C_drew ?_))); (case side2 => exact (Kd.R_reads' HO115.out).2.1); rintro e w36 ⟨rfl, hb⟩; have n0_ := Aside0.mk (Kd.R_below (by (with_reducible repeat (first | apply Kd.R_alloc | apply Kd.R_drewN | apply Kd.R_drew)); exact HO115.out) hb); have n1_ := Aside0.mk (below_step (by repeat (first | (with_reducible first | exact HB.out | apply below_alloc | apply pw_below_drewN | apply below_drew1) | exact HB.out)) hb); clear HO115; clear HB; have HO115 := n0_; have HB := n1_; clear n0_ n1_; (try clear hb); (try clear hb2); (try clear hk); (try clear hi)) | (go_at_call 31; (refine (wire_Texts.calls _ _ ([] : List ByteArray) t117 _ ?side1 ?side2 A31.out (HT.out.below (by repeat (first | (with_reducible first | exact HB.out | apply below_alloc | apply pw_below_drewN | apply below_drew1) | exact HB.out)))).mono ?_); (case side1 => exact Kd.C_nil _ _); (case side2 => exact Nat.le_refl _); rintro e w37 ⟨rfl, hb⟩; have n0_ := Aside0.mk (below_step (by repeat (first | (with_reducible first | exact HB.out | apply below_alloc | apply pw_below_drewN | apply below_drew1) | exact HB.out)) hb); clear HB; have HB := n0_; clear n0_; (try clear hb); (try clear hb2); (try clear hk); (try clear hi)))
            go_meet
            case rel => exact ⟨_, ((t117.toList == ([48, 91, 93] : List UInt8))), (by first | rfl | (simp; done) | (simp [*]; done)), H', ⟨by have := HJ0.out; first | omega | exact Nat.le_refl _⟩, ⟨by repeat (first | (with_reducible first | exact HB.out | apply below_alloc | apply pw_below_drewN | apply below_drew1) | exact HB.out)⟩⟩
          · rw [if_neg c30] at H
            have c30b0 : (t116.toList == ([50, 91, 49, 59, 45, 49, 59, 93] : List UInt8)) = false := beq_eq_false_iff_ne.mpr c30
            have c30b1 : (t116.toList != ([50, 91, 49, 59, 45, 49, 59, 93] : List UInt8)) = true := bne_iff_ne.mpr c30
            have H' := Aside0.mk H
            clear H
            go_wp2_with (first | ((with_reducible refine gate_callee (f := 27) rfl ?_); refine goesL_ (some 23) rfl rfl Tryd.func27 (by kernel_rfl) rfl #[.string (⟨#[97, 44, 98]⟩ : ByteArray)] rfl (by (try simp only [List.map_toArray, List.map_cons, List.map_nil]); first | done | rfl | (simp only [List.length_drop, List.length_take]; rfl)) ?_; (with_reducible refine (wire_Text.calls (⟨#[97, 44, 98]⟩ : ByteArray) t112 _ A27.out (HT.out.below (by repeat (first | (with_reducible first | exact HB.out | apply below_alloc | apply pw_below_drewN | apply below_drew1) | exact HB.out)))).mono ?_); rintro e w38 ⟨rfl, hb⟩; refine ⟨_, rfl, ?_⟩; have n0_ := Aside0.mk (below_step (by repeat (first | (with_reducible first | exact HB.out | apply below_alloc | apply pw_below_drewN | apply below_drew1) | exact HB.out)) hb); clear HB; have HB := n0_; clear n0_; (try clear hb); (try clear hb2); (try clear hk); (try clear hi)) | ((with_reducible refine gate_dst (N := 26) rfl ?_); (try (refine gate_guard (by rfl) ?_; dsimp only)); refine Kd.R_lit (Kd.int .i64) _ 3 ?hg (N := 26) ?hd (xs := ([1, (-1)] : List Int)) (inner := [.int .i64 1, .int .i64 (-1)]) (ok := fun _ => True) (okp := fun _ => True) ?hr ?hp (fun _ hk => hk) trivial (Below.refl _ _) (Nat.le_refl _) (by simp) ?_; (case hd => rfl); (case hg => rfl); (case hr => first | (go_simp; done) | (go_simp; rfl)); (case hp => exact (Reps.one (show Kd.M (Kd.int .i64) _ _ _ 1 [.int .i64 1] from rfl) (Reps.one (show Kd.M (Kd.int .i64) _ _ _ (-1) [.int .i64 (-1)] from rfl) (Reps.none _ _)))); intro v114 w39 ho40 hb hg_ hnew_; clear hg_ hnew_; (first | rw [← Ny113.out] at ho40 | (simp only [Int.reduceToNat] at ho40; rw [← Ny113.out] at ho40)); have n0_ := Aside0.mk (Kd.R_lower ho40 (below_size (by repeat (first | (with_reducible first | exact HB.out | apply below_alloc | apply pw_below_drewN | apply below_drew1) | exact HB.out)))); have n1_ := Aside0.mk (below_step (by repeat (first | (with_reducible first | exact HB.out | apply below_alloc | apply pw_below_drewN | apply below_drew1) | exact HB.out)) hb); clear HB; have HO115 := n0_; have HB := n1_; clear n0_ n1_; clear hb ho40; obtain ⟨Ao41, co41, eo41⟩ := Kd.R_slice HO115.out; subst eo41) | (go_at_call 29; (with_reducible refine (wire_Nums.calls _ _ y113 t116 _ ?side1 ?side2 A29.out (HT.out.below (by repeat (first | (with_reducible first | exact HB.out | apply below_alloc | apply pw_below_drewN | apply below_drew1) | exact HB.out)))).mono ?_); (case side1 => repeat (first | exact (Kd.R_reads' HO115.out).2.2 | (with_reducible refine Kd.C_alloc ?_ _) | (with_reducible refine Kd.C_drewN ?_ _) | (with_reducible refine Kd.C_drew ?_))); (case side2 => exact (Kd.R_reads' HO115.out).2.1); rintro e w42 ⟨rfl, hb⟩; have n0_ := Aside0.mk (Kd.R_below (by (with_reducible repeat (first | apply Kd.R_alloc | apply Kd.R_drewN | apply Kd.R_drew)); exact HO115.out) hb); have n1_ := Aside0.mk (below_step (by repeat (first | (with_reducible first | exact HB.out | apply below_alloc | apply pw_below_drewN | apply below_drew1) | exact HB.out)) hb); clear HO115; clear HB; have HO115 := n0_; have HB := n1_; clear n0_ n1_; (try clear hb); (try clear hb2); (try clear hk); (try clear hi)))
            go_meet
            case rel => exact ⟨_, (false), (by first | rfl | (simp; done) | (simp [*]; done)), H', ⟨by have := HJ0.out; first | omega | exact Nat.le_refl _⟩, ⟨by repeat (first | (with_reducible first | exact HB.out | apply below_alloc | apply pw_below_drewN | apply below_drew1) | exact HB.out)⟩⟩
        · rw [if_neg c28] at H
          have c28b0 : (t112.toList == ([51, 58, 97, 44, 98, 44] : List UInt8)) = false := beq_eq_false_iff_ne.mpr c28
          have c28b1 : (t112.toList != ([51, 58, 97, 44, 98, 44] : List UInt8)) = true := bne_iff_ne.mpr c28
          (first | rw [c28b0] | (simp only [i64_w, i32_w]; rw [c28b0]) | skip)
          have H' := Aside0.mk H
          clear H
          go_wp2_with (first | ((with_reducible refine gate_callee (f := 27) rfl ?_); refine goesL_ (some 23) rfl rfl Tryd.func27 (by kernel_rfl) rfl #[.string (⟨#[97, 44, 98]⟩ : ByteArray)] rfl (by (try simp only [List.map_toArray, List.map_cons, List.map_nil]); first | done | rfl | (simp only [List.length_drop, List.length_take]; rfl)) ?_; (with_reducible refine (wire_Text.calls (⟨#[97, 44, 98]⟩ : ByteArray) t112 _ A27.out (HT.out.below (by repeat (first | (with_reducible first | exact HB.out | apply below_alloc | apply pw_below_drewN | apply below_drew1) | exact HB.out)))).mono ?_); rintro e w43 ⟨rfl, hb⟩; refine ⟨_, rfl, ?_⟩; have n0_ := Aside0.mk (below_step (by repeat (first | (with_reducible first | exact HB.out | apply below_alloc | apply pw_below_drewN | apply below_drew1) | exact HB.out)) hb); clear HB; have HB := n0_; clear n0_; (try clear hb); (try clear hb2); (try clear hk); (try clear hi)))
          go_meet
          case rel => exact ⟨_, (false), (by first | rfl | (simp; done) | (simp [*]; done)), H', ⟨by have := HJ0.out; first | omega | exact Nat.le_refl _⟩, ⟨by repeat (first | (with_reducible first | exact HB.out | apply below_alloc | apply pw_below_drewN | apply below_drew1) | exact HB.out)⟩⟩
      case rest =>
        clear HC26
        try clear c2
        try clear p2
        try clear c3
        try clear c3b0
        try clear c3b1
        try clear c5
        try clear c5b0
        try clear c5b1
        try clear c7
        try clear c7b0
        try clear c7b1
        try clear c9
        try clear c9b0
        try clear c9b1
        try clear c21
        try clear c23
        try clear c27
        try clear c28
        try clear c28b0
        try clear c28b1
        try clear c30
        try clear c30b0
        try clear c30b1
        try clear p2
        obtain ⟨kq, x2_25, rfl, HA, HJ25, HB⟩ := hcut
        cases kq with
        | zero => exact absurd HA.out (by simp [taquinlaw01_small.j1])
        | succ kj25 =>
          have H := HA.out
          clear HA
          simp only [taquinlaw01_small.j1] at H
          replace H := Option.bind_eq_some_iff.mp H
          obtain ⟨⟨t118, t119⟩, A440, H⟩ := H
          replace H : ((wire_Reader_Num.f t118 t119).bind fun bt121 => (if x1_0 = true then (if x2_25 = true then (if bt121.1 = 0 then ((wire_Reader_Left.f bt121.2.1 bt121.2.2).bind fun bt124 => (if bt124.1 = 0 then ((wire_Reader_Done.f bt124.2.1 bt124.2.2).bind fun bt127 => (some (!bt127.1))) else (none))) else (none)) else (none)) else (none))) = some r := H
          have A44 := Aside0.mk A440
          clear A440
          replace H := Option.bind_eq_some_iff.mp H
          obtain ⟨⟨t121, t122, t123⟩, A450, H⟩ := H
          replace H : (if x1_0 = true then (if x2_25 = true then (if t121 = 0 then ((wire_Reader_Left.f t122 t123).bind fun bt124 => (if bt124.1 = 0 then ((wire_Reader_Done.f bt124.2.1 bt124.2.2).bind fun bt127 => (some (!bt127.1))) else (none))) else (none)) else (none)) else (none)) = some r := H
          have A45 := Aside0.mk A450
          clear A450
          by_cases c46 : x1_0 = true
          · subst c46
            have H1 : (if x2_25 = true then (if t121 = 0 then ((wire_Reader_Left.f t122 t123).bind fun bt124 => (if bt124.1 = 0 then ((wire_Reader_Done.f bt124.2.1 bt124.2.2).bind fun bt127 => (some (!bt127.1))) else (none))) else (none)) else (none)) = some r := by rw [if_pos rfl] at H; exact H
            clear H
            have H := H1
            clear H1
            by_cases c47 : x2_25 = true
            · subst c47
              have H1 : (if t121 = 0 then ((wire_Reader_Left.f t122 t123).bind fun bt124 => (if bt124.1 = 0 then ((wire_Reader_Done.f bt124.2.1 bt124.2.2).bind fun bt127 => (some (!bt127.1))) else (none))) else (none)) = some r := by rw [if_pos rfl] at H; exact H
              clear H
              have H := H1
              clear H1
              by_cases c48 : t121 = 0
              · rw [if_pos c48] at H
                have c48b0 : (t121 == 0) = true := beq_iff_eq.mpr c48
                have c48b1 : (t121 != 0) = false := bne_eq_false_iff_eq.mpr c48
                clear c48
                replace H := Option.bind_eq_some_iff.mp H
                obtain ⟨⟨t124, t125, t126⟩, A490, H⟩ := H
                replace H : (if t124 = 0 then ((wire_Reader_Done.f t125 t126).bind fun bt127 => (some (!bt127.1))) else (none)) = some r := H
                have A49 := Aside0.mk A490
                clear A490
                by_cases c50 : t124 = 0
                · rw [if_pos c50] at H
                  have c50b0 : (t124 == 0) = true := beq_iff_eq.mpr c50
                  have c50b1 : (t124 != 0) = false := bne_eq_false_iff_eq.mpr c50
                  clear c50
                  replace H := Option.bind_eq_some_iff.mp H
                  obtain ⟨⟨t127, t128, t129⟩, A510, H⟩ := H
                  replace H : (some (!t127)) = some r := H
                  have A51 := Aside0.mk A510
                  clear A510
                  obtain rfl := Option.some.inj H
                  go_wp2_with (first | ((with_reducible refine gate_callee (f := 33) rfl ?_); refine goesL_ (some 34) rfl rfl Tryd.func33 (by kernel_rfl) rfl #[.string (⟨#[48, 48, 55, 59]⟩ : ByteArray)] rfl (by (try simp only [List.map_toArray, List.map_cons, List.map_nil]); first | done | rfl | (simp only [List.length_drop, List.length_take]; rfl)) ?_; (with_reducible refine (wire_Open.calls (⟨#[48, 48, 55, 59]⟩ : ByteArray) t118 t119 _ _ (Below.refl _ _) A44.out).mono ?_); rintro e w52 ⟨g120, rfl, hi, hb, hb2⟩; refine ⟨_, rfl, ?_⟩; have n0_ := Aside0.mk (below_step (by repeat (first | (with_reducible first | exact HB.out | apply below_alloc | apply pw_below_drewN | apply below_drew1) | exact HB.out)) hb); have n1_ := Aside0.mk ((show IsS189 w _ g120 t118 t119 from ⟨hi.1, Nat.le_trans (below_size (by repeat (first | (with_reducible first | exact HB.out | apply below_alloc | apply pw_below_drewN | apply below_drew1) | exact HB.out))) hi.2⟩)); clear HB; have HB := n0_; have HI120 := n1_; clear n0_ n1_; (try clear hb); (try clear hb2); (try clear hk); (try clear hi)) | ((with_reducible refine gate_callee (f := 35) rfl ?_); refine goesL_ (some 38) rfl rfl Tryd.func35 (by kernel_rfl) rfl #[.pointer (some ⟨g120, 0, none⟩)] rfl (by (try simp only [List.map_toArray, List.map_cons, List.map_nil]); first | done | rfl | (simp only [List.length_drop, List.length_take]; rfl)) ?_; (with_reducible refine (wire_Reader_Num.calls g120 t118 t119 t121 t122 t123 w _ ?side1 ?side2 A45.out HT.out).mono ?_); (case side1 => repeat (first | (with_reducible first | exact HI120.out | apply IsS189.alloc | apply IsS189.drewN | apply IsS189.drew | apply IsS189.set_0 | apply IsS189.set_1) | exact HI120.out)); (case side2 => repeat (first | (with_reducible first | exact HB.out | apply below_alloc | apply pw_below_drewN | apply below_drew1 | refine below_set ?_ (IsS189.ge HI120.out)) | exact HB.out)); rintro e w53 ⟨rfl, hi, hb, hk⟩; refine ⟨_, rfl, ?_⟩; have n0_ := Aside0.mk (hb); have n1_ := Aside0.mk (hi); clear HB; clear HI120; have HB := n0_; have HI120 := n1_; clear n0_ n1_; (try clear hb); (try clear hb2); (try clear hk); (try clear hi)) | (go_at_call 40; (with_reducible refine (wire_Reader_Left.calls g120 t122 t123 t124 t125 t126 w _ ?side1 ?side2 A49.out).mono ?_); (case side1 => repeat (first | (with_reducible first | exact HI120.out | apply IsS189.alloc | apply IsS189.drewN | apply IsS189.drew | apply IsS189.set_0 | apply IsS189.set_1) | exact HI120.out)); (case side2 => repeat (first | (with_reducible first | exact HB.out | apply below_alloc | apply pw_below_drewN | apply below_drew1 | refine below_set ?_ (IsS189.ge HI120.out)) | exact HB.out)); rintro e w54 ⟨rfl, hi, hb, hk⟩; have n0_ := Aside0.mk (hb); have n1_ := Aside0.mk (hi); clear HB; clear HI120; have HB := n0_; have HI120 := n1_; clear n0_ n1_; (try clear hb); (try clear hb2); (try clear hk); (try clear hi)) | (go_at_call 41; (with_reducible refine (wire_Reader_Done.calls g120 t125 t126 t127 t128 t129 w _ ?side1 ?side2 A51.out).mono ?_); (case side1 => repeat (first | (with_reducible first | exact HI120.out | apply IsS189.alloc | apply IsS189.drewN | apply IsS189.drew | apply IsS189.set_0 | apply IsS189.set_1) | exact HI120.out)); (case side2 => repeat (first | (with_reducible first | exact HB.out | apply below_alloc | apply pw_below_drewN | apply below_drew1 | refine below_set ?_ (IsS189.ge HI120.out)) | exact HB.out)); rintro e w55 ⟨rfl, hi, hb, hk⟩; have n0_ := Aside0.mk (hb); have n1_ := Aside0.mk (hi); clear HB; clear HI120; have HB := n0_; have HI120 := n1_; clear n0_ n1_; (try clear hb); (try clear hb2); (try clear hk); (try clear hi)))
                  go_ret
                  exact ⟨by first | rfl | (simp [errW_none, errW_some] <;> rfl) | (simp [*, errW_none, errW_some] <;> rfl), by repeat (first | (with_reducible first | exact HB.out | apply below_alloc | apply pw_below_drewN | apply below_drew1 | refine below_set ?_ (IsS189.ge HI120.out)) | exact HB.out)⟩
                · rw [if_neg c50] at H
                  exact absurd H (by simp)
              · rw [if_neg c48] at H
                exact absurd H (by simp)
            · replace c47 := Bool.eq_false_iff.mpr c47
              subst c47
              have H1 : (none) = some r := by rw [if_neg (show ¬ (false = true) by decide)] at H; exact H
              clear H
              have H := H1
              clear H1
              exact absurd H (by simp)
          · replace c46 := Bool.eq_false_iff.mpr c46
            subst c46
            have H1 : (none) = some r := by rw [if_neg (show ¬ (false = true) by decide)] at H; exact H
            clear H
            have H := H1
            clear H1
            exact absurd H (by simp)

/-! ### taquinlaw01_kind: function 34 -/
def taquinlaw01_kind.f (a0_0 : Int) (a0_1 : Int) (a0_2 : ByteArray) (l0_3 : List Int) (l0_4 : List ByteArray) : Option (Int) := if (Int.tmod a0_0 5) < 0 then (some (wrap64 ((Int.tmod a0_0 5) + 5))) else (some (Int.tmod a0_0 5))
set_option maxHeartbeats 8000000 in
set_option maxRecDepth 100000 in
theorem taquinlaw01_kind.calls (a0_0 : Int) (a0_1 : Int) (a0_2 : ByteArray) (A0_3 : Option Addr) (c0_3 : Nat) (l0_3 : List Int) (A0_4 : Option Addr) (c0_4 : Nat) (l0_4 : List ByteArray) (r : Int) (w : World) (hr0_3 : Kd.C (Kd.int .i64) w A0_3 l0_3.length l0_3) (hc0_3 : l0_3.length ≤ c0_3) (hr0_4 : Kd.C Kd.string w A0_4 l0_4.length l0_4) (hc0_4 : l0_4.length ≤ c0_4) (h : taquinlaw01_kind.f a0_0 a0_1 a0_2 l0_3 l0_4 = some r) :
    Calls Tryd.prog 34 #[.agg #[.int .i64 a0_0, .int .i64 a0_1, .string a0_2, .slice A0_3 l0_3.length c0_3, .slice A0_4 l0_4.length c0_4]] w fun e w' => e = .returned (.int .i64 r) ∧ Below w.heap.size w w' := by
  have hu25 := Tryd.underlying25
  have HR0_3 := Aside0.mk hr0_3
  have HC0_3 := Aside0.mk hc0_3
  clear hr0_3 hc0_3
  have HR0_4 := Aside0.mk hr0_4
  have HC0_4 := Aside0.mk hc0_4
  clear hr0_4 hc0_4
  have HB := Aside0.mk (Below.refl w.heap.size w)
  have H : (if (Int.tmod a0_0 5) < 0 then (some (wrap64 ((Int.tmod a0_0 5) + 5))) else (some (Int.tmod a0_0 5))) = some r := h
  clear h
  by_cases c2 : (Int.tmod a0_0 5) < 0
  · rw [if_pos c2] at H
    have c2b0 : decide ((Int.tmod a0_0 5) < 0) = true := decide_eq_true c2
    clear c2
    obtain rfl := Option.some.inj H
    go_enter Tryd.func34, Tryd.ntmps34
    go_wp2_with (first | ((with_reducible refine gate_dst (N := 1) rfl ?_); refine box_event ?hg (N := 1) ?hd (cs := #[.int .i64 a0_0, .int .i64 a0_1, .string a0_2, .slice A0_3 l0_3.length c0_3, .slice A0_4 l0_4.length c0_4]) (t := 25) ?hr ?_; (case hd => rfl); (case hg => rfl); (case hr => first | (go_simp; done) | (go_simp; rfl)); intro gb130 hg w3 hbox hb; have n0_ := Aside0.mk (below_step (by repeat (first | (with_reducible first | exact HB.out | apply below_alloc | apply pw_below_drewN | apply below_drew1) | exact HB.out)) hb); have n1_ := Aside0.mk (hbox); have n2_ := Aside0.mk ((by rw [hg]; exact (below_size (by repeat (first | (with_reducible first | exact HB.out | apply below_alloc | apply pw_below_drewN | apply below_drew1) | exact HB.out))) : w.heap.size ≤ gb130)); have n3_ := Aside0.mk ((by rw [hg]; exact (below_size (by repeat (first | (with_reducible first | exact HB.out | apply below_alloc | apply pw_below_drewN | apply below_drew1) | exact HB.out))) : w.heap.size ≤ gb130)); clear HB; have HB := n0_; have BK130 := n1_; have GW130 := n2_; have GE130 := n3_; clear n0_ n1_ n2_ n3_; clear hb hbox hg; have hcz4_0 : w3.cell? ⟨gb130, 0, none⟩ = some (.int .i64 a0_0) := (blk_cell BK130.out 0).trans rfl; have hcz4_1 : w3.cell? ⟨gb130, 1, none⟩ = some (.int .i64 a0_1) := (blk_cell BK130.out 1).trans rfl; have hcz4_2 : w3.cell? ⟨gb130, 2, none⟩ = some (.string a0_2) := (blk_cell BK130.out 2).trans rfl; have hcz4_3 : w3.cell? ⟨gb130, 3, none⟩ = some (.slice A0_3 l0_3.length c0_3) := (blk_cell BK130.out 3).trans rfl; have hcz4_4 : w3.cell? ⟨gb130, 4, none⟩ = some (.slice A0_4 l0_4.length c0_4) := (blk_cell BK130.out 4).trans rfl; have hfz4_0 := blk_frozen BK130.out 0; have hfz4_1 := blk_frozen BK130.out 1; have hfz4_2 := blk_frozen BK130.out 2; have hfz4_3 := blk_frozen BK130.out 3; have hfz4_4 := blk_frozen BK130.out 4))
    go_ret
    exact ⟨by first | rfl | (simp [errW_none, errW_some] <;> rfl) | (simp [*, errW_none, errW_some] <;> rfl), by repeat (first | (with_reducible first | exact HB.out | apply below_alloc | apply pw_below_drewN | apply below_drew1 | refine below_set ?_ GE130.out) | exact HB.out)⟩
  · rw [if_neg c2] at H
    have c2b0 : decide ((Int.tmod a0_0 5) < 0) = false := decide_eq_false c2
    clear c2
    obtain rfl := Option.some.inj H
    go_enter Tryd.func34, Tryd.ntmps34
    go_wp2_with (first | ((with_reducible refine gate_dst (N := 1) rfl ?_); refine box_event ?hg (N := 1) ?hd (cs := #[.int .i64 a0_0, .int .i64 a0_1, .string a0_2, .slice A0_3 l0_3.length c0_3, .slice A0_4 l0_4.length c0_4]) (t := 25) ?hr ?_; (case hd => rfl); (case hg => rfl); (case hr => first | (go_simp; done) | (go_simp; rfl)); intro gb130 hg w5 hbox hb; have n0_ := Aside0.mk (below_step (by repeat (first | (with_reducible first | exact HB.out | apply below_alloc | apply pw_below_drewN | apply below_drew1) | exact HB.out)) hb); have n1_ := Aside0.mk (hbox); have n2_ := Aside0.mk ((by rw [hg]; exact (below_size (by repeat (first | (with_reducible first | exact HB.out | apply below_alloc | apply pw_below_drewN | apply below_drew1) | exact HB.out))) : w.heap.size ≤ gb130)); have n3_ := Aside0.mk ((by rw [hg]; exact (below_size (by repeat (first | (with_reducible first | exact HB.out | apply below_alloc | apply pw_below_drewN | apply below_drew1) | exact HB.out))) : w.heap.size ≤ gb130)); clear HB; have HB := n0_; have BK130 := n1_; have GW130 := n2_; have GE130 := n3_; clear n0_ n1_ n2_ n3_; clear hb hbox hg; have hcz6_0 : w5.cell? ⟨gb130, 0, none⟩ = some (.int .i64 a0_0) := (blk_cell BK130.out 0).trans rfl; have hcz6_1 : w5.cell? ⟨gb130, 1, none⟩ = some (.int .i64 a0_1) := (blk_cell BK130.out 1).trans rfl; have hcz6_2 : w5.cell? ⟨gb130, 2, none⟩ = some (.string a0_2) := (blk_cell BK130.out 2).trans rfl; have hcz6_3 : w5.cell? ⟨gb130, 3, none⟩ = some (.slice A0_3 l0_3.length c0_3) := (blk_cell BK130.out 3).trans rfl; have hcz6_4 : w5.cell? ⟨gb130, 4, none⟩ = some (.slice A0_4 l0_4.length c0_4) := (blk_cell BK130.out 4).trans rfl; have hfz6_0 := blk_frozen BK130.out 0; have hfz6_1 := blk_frozen BK130.out 1; have hfz6_2 := blk_frozen BK130.out 2; have hfz6_3 := blk_frozen BK130.out 3; have hfz6_4 := blk_frozen BK130.out 4))
    go_ret
    exact ⟨by first | rfl | (simp [errW_none, errW_some] <;> rfl) | (simp [*, errW_none, errW_some] <;> rfl), by repeat (first | (with_reducible first | exact HB.out | apply below_alloc | apply pw_below_drewN | apply below_drew1 | refine below_set ?_ GE130.out) | exact HB.out)⟩

/-! ### wire_Reader_Int: function 36 -/
def wire_Reader_Int.f (s0_0 : ByteArray) (s0_1 : Bool) : Option (Int × ByteArray × Bool) := (wire_Reader_number.f s0_0 s0_1 59 (-9223372036854775808)).bind fun bt131 => (some (bt131.1, bt131.2.1, bt131.2.2))
set_option maxHeartbeats 8000000 in
set_option maxRecDepth 100000 in
theorem wire_Reader_Int.calls (g : Nat) (s0_0 : ByteArray) (s0_1 : Bool) (r1 : Int) (r2 : ByteArray) (r3 : Bool) (w0 w : World) (hI : IsS189 w0 w g s0_0 s0_1) (hB : Below w0.heap.size w0 w) (h : wire_Reader_Int.f s0_0 s0_1 = some (r1, r2, r3)) (hT : Tabs w0) :
    Calls Tryd.prog 36 #[.pointer (some ⟨g, 0, none⟩)] w fun e w' => e = .returned (.int .i64 r1) ∧ IsS189 w0 w' g r2 r3 ∧ Below w0.heap.size w0 w' ∧ KeepBut w w' g none := by
  have HI0 := Aside0.mk hI
  have HK := Aside0.mk (KeepBut.refl w g none)
  have HL := Aside0.mk hB.size
  clear hI
  have HT := Aside0.mk hT
  clear hT
  have HW0 := Aside0.mk hB.size
  have HB := Aside0.mk hB
  clear hB
  have H : ((wire_Reader_number.f s0_0 s0_1 59 (-9223372036854775808)).bind fun bt131 => (some (bt131.1, bt131.2.1, bt131.2.2))) = some (r1, r2, r3) := h
  clear h
  replace H := Option.bind_eq_some_iff.mp H
  obtain ⟨⟨t131, t132, t133⟩, A20, H⟩ := H
  replace H : (some (t131, t132, t133)) = some (r1, r2, r3) := H
  have A2 := Aside0.mk A20
  clear A20
  simp only [Option.some.injEq, Prod.mk.injEq] at H
  obtain ⟨rfl, rfl, rfl⟩ := H
  go_enter Tryd.func36, Tryd.ntmps36
  go_wp2_with (first | ((with_reducible refine gate_callee (f := 145) rfl ?_); refine goesL_ (some 4) rfl rfl Tryd.func145 (by kernel_rfl) rfl #[.pointer (some ⟨g, 0, none⟩), .int .u8 59, .int .i64 (-9223372036854775808)] rfl (by (try simp only [List.map_toArray, List.map_cons, List.map_nil]); first | done | rfl | (simp only [List.length_drop, List.length_take]; rfl)) ?_; (with_reducible refine (wire_Reader_number.calls g s0_0 s0_1 59 (-9223372036854775808) t131 t132 t133 w0 _ ?side1 ?side2 A2.out HT.out).mono ?_); (case side1 => repeat (first | (with_reducible first | exact HI0.out | apply IsS189.alloc | apply IsS189.drewN | apply IsS189.drew | apply IsS189.set_0 | apply IsS189.set_1) | exact HI0.out)); (case side2 => repeat (first | (with_reducible first | exact HB.out | apply below_alloc | apply pw_below_drewN | apply below_drew1 | refine below_set ?_ (IsS189.ge HI0.out)) | exact HB.out)); rintro e w3 ⟨rfl, hi, hb, hk⟩; refine ⟨_, rfl, ?_⟩; have n0_ := Aside0.mk (KeepBut.trans (by repeat (first | (with_reducible first | exact HK.out | apply KeepBut.set_ | apply keep_drewN | apply keep_drew | apply keep_alloc) | exact HK.out)) hk (.inl rfl)); have n1_ := Aside0.mk (hb); have n2_ := Aside0.mk (hi); clear HK; clear HB; clear HI0; have HK := n0_; have HB := n1_; have HI0 := n2_; clear n0_ n1_ n2_; (try clear hb); (try clear hb2); (try clear hk); (try clear hi)))
  go_ret
  exact ⟨by first | rfl | (simp [errW_none, errW_some] <;> rfl) | (simp [*, errW_none, errW_some] <;> rfl), by repeat (first | (with_reducible first | exact HI0.out | apply IsS189.alloc | apply IsS189.drewN | apply IsS189.drew | apply IsS189.set_0 | apply IsS189.set_1) | exact HI0.out), by repeat (first | (with_reducible first | exact HB.out | apply below_alloc | apply pw_below_drewN | apply below_drew1 | refine below_set ?_ (IsS189.ge HI0.out)) | exact HB.out), by repeat (first | (with_reducible first | exact HK.out | apply KeepBut.set_ | apply keep_drewN | apply keep_drew | apply keep_alloc) | exact HK.out)⟩

/-! ### wire_Reader_close: function 147 -/
def wire_Reader_close.f (s0_0 : ByteArray) (s0_1 : Bool) (a1 : ByteArray) : Option (ByteArray × Bool) :=
  if Lib.hasPrefix s0_0.data.toList a1.data.toList = true then some (⟨(Lib.trimPrefix s0_0.data.toList a1.data.toList).toArray⟩, s0_1) else some (⟨#[]⟩, true)
set_option maxHeartbeats 1000000 in
set_option maxRecDepth 100000 in
theorem wire_Reader_close.calls (g : Nat) (s0_0 : ByteArray) (s0_1 : Bool) (a1 : ByteArray) (r1 : ByteArray) (r2 : Bool) (w0 w : World) (hI : IsS189 w0 w g s0_0 s0_1) (hB : Below w0.heap.size w0 w) (h : wire_Reader_close.f s0_0 s0_1 a1 = some (r1, r2)) :
    Calls Tryd.prog 147 #[.pointer (some ⟨g, 0, none⟩), .string a1] w fun e w' => e = .returned (.tuple #[]) ∧ IsS189 w0 w' g r1 r2 ∧ Below w0.heap.size w0 w' ∧ KeepBut w w' g none := by
  unfold wire_Reader_close.f at h
  have HI := Aside0.mk hI
  have HB := Aside0.mk hB
  obtain ⟨hb, _⟩ := HI.out
  have hc0 := cellS189_0 hb
  have hf0 := blk_frozen hb 0
  clear hb hI hB
  by_cases hp : Lib.hasPrefix s0_0.data.toList a1.data.toList = true
  · rw [if_pos hp] at h
    simp only [Option.some.injEq, Prod.mk.injEq] at h
    obtain ⟨rfl, rfl⟩ := h
    go_enter Tryd.func147, Tryd.ntmps147
    go_wp2_with (go_at_call 216; refine (Tryd.strings_CutPrefix _ _ _).mono ?_; rintro e w' ⟨rfl, rfl⟩)
    first | go_end0 | ((try simp only [Exit.inBlock, Exit.then]); refine bodyPost_ret (results_none rfl _ _ _) rfl ?_)
    exact ⟨rfl, IsS189.set_0 HI.out _, below_set HB.out (IsS189.ge HI.out), KeepBut.set_ (KeepBut.refl _ _ _) _ _⟩
  · rw [if_neg hp] at h
    simp only [Option.some.injEq, Prod.mk.injEq] at h
    obtain ⟨rfl, rfl⟩ := h
    replace hp : Lib.hasPrefix s0_0.data.toList a1.data.toList = false := by simpa using hp
    go_enter Tryd.func147, Tryd.ntmps147
    go_wp2_with (first | (go_at_call 216; refine (Tryd.strings_CutPrefix _ _ _).mono ?_; rintro e w' ⟨rfl, rfl⟩) | (go_at_call 146; refine (wire_Reader_fail.calls g _ _ _ _ w0 _ (IsS189.set_0 HI.out _) (below_set HB.out (IsS189.ge HI.out)) rfl).mono ?_; rintro e w2 ⟨rfl, hi2, hb2, hk2⟩; have HE := Aside0.mk (And.intro hi2 (And.intro hb2 ((KeepBut.set_ (KeepBut.refl _ _ _) _ _).trans hk2 (.inl rfl)))); clear hi2 hb2 hk2))
    first | go_end0 | ((try simp only [Exit.inBlock, Exit.then]); refine bodyPost_ret (results_none rfl _ _ _) rfl ?_)
    exact ⟨rfl, HE.out⟩

/-! ### wire_Reader_Text: function 37 -/
def wire_Reader_Text.f (s0_0 : ByteArray) (s0_1 : Bool) : Option (ByteArray × ByteArray × Bool) := (wire_Reader_number.f s0_0 s0_1 58 0).bind fun bt134 => (if bt134.1 > (bt134.2.1.size : Int) then ((wire_Reader_fail.f bt134.2.1 bt134.2.2).bind fun bt137 => (some ((⟨#[]⟩ : ByteArray), bt137.1, bt137.2))) else (if 0 ≤ bt134.1 then (if bt134.1 ≤ (bt134.2.1.size : Int) then ((wire_Reader_close.f (bt134.2.1.extract (bt134.1 : Int).toNat bt134.2.1.size) bt134.2.2 (⟨#[44]⟩ : ByteArray)).bind fun bt139 => (if bt139.2 = true then (some ((⟨#[]⟩ : ByteArray), bt139.1, bt139.2)) else (some (bt134.2.1.extract 0 (bt134.1 : Int).toNat, bt139.1, bt139.2)))) else (none)) else (none)))
set_option maxHeartbeats 8000000 in
set_option maxRecDepth 100000 in
theorem wire_Reader_Text.calls (g : Nat) (s0_0 : ByteArray) (s0_1 : Bool) (r1 : ByteArray) (r2 : ByteArray) (r3 : Bool) (w0 w : World) (hI : IsS189 w0 w g s0_0 s0_1) (hB : Below w0.heap.size w0 w) (h : wire_Reader_Text.f s0_0 s0_1 = some (r1, r2, r3)) (hT : Tabs w0) :
    Calls Tryd.prog 37 #[.pointer (some ⟨g, 0, none⟩)] w fun e w' => e = .returned (.string r1) ∧ IsS189 w0 w' g r2 r3 ∧ Below w0.heap.size w0 w' ∧ KeepBut w w' g none := by
  have HI0 := Aside0.mk hI
  have HK := Aside0.mk (KeepBut.refl w g none)
  have HL := Aside0.mk hB.size
  clear hI
  have HT := Aside0.mk hT
  clear hT
  have HW0 := Aside0.mk hB.size
  have HB := Aside0.mk hB
  clear hB
  have H : ((wire_Reader_number.f s0_0 s0_1 58 0).bind fun bt134 => (if bt134.1 > (bt134.2.1.size : Int) then ((wire_Reader_fail.f bt134.2.1 bt134.2.2).bind fun bt137 => (some ((⟨#[]⟩ : ByteArray), bt137.1, bt137.2))) else (if 0 ≤ bt134.1 then (if bt134.1 ≤ (bt134.2.1.size : Int) then ((wire_Reader_close.f (bt134.2.1.extract (bt134.1 : Int).toNat bt134.2.1.size) bt134.2.2 (⟨#[44]⟩ : ByteArray)).bind fun bt139 => (if bt139.2 = true then (some ((⟨#[]⟩ : ByteArray), bt139.1, bt139.2)) else (some (bt134.2.1.extract 0 (bt134.1 : Int).toNat, bt139.1, bt139.2)))) else (none)) else (none)))) = some (r1, r2, r3) := h
  clear h
  replace H := Option.bind_eq_some_iff.mp H
  obtain ⟨⟨t134, t135, t136⟩, A20, H⟩ := H
  replace H : (if t134 > (t135.size : Int) then ((wire_Reader_fail.f t135 t136).bind fun bt137 => (some ((⟨#[]⟩ : ByteArray), bt137.1, bt137.2))) else (if 0 ≤ t134 then (if t134 ≤ (t135.size : Int) then ((wire_Reader_close.f (t135.extract (t134 : Int).toNat t135.size) t136 (⟨#[44]⟩ : ByteArray)).bind fun bt139 => (if bt139.2 = true then (some ((⟨#[]⟩ : ByteArray), bt139.1, bt139.2)) else (some (t135.extract 0 (t134 : Int).toNat, bt139.1, bt139.2)))) else (none)) else (none))) = some (r1, r2, r3) := H
  have A2 := Aside0.mk A20
  clear A20
  by_cases c3 : t134 > (t135.size : Int)
  · rw [if_pos c3] at H
    have c3b0 : decide ((t135.size : Int) < t134) = true := decide_eq_true c3
    clear c3
    replace H := Option.bind_eq_some_iff.mp H
    obtain ⟨⟨t137, t138⟩, A40, H⟩ := H
    replace H : (some ((⟨#[]⟩ : ByteArray), t137, t138)) = some (r1, r2, r3) := H
    have A4 := Aside0.mk A40
    clear A40
    simp only [Option.some.injEq, Prod.mk.injEq] at H
    obtain ⟨rfl, rfl, rfl⟩ := H
    go_enter Tryd.func37, Tryd.ntmps37
    go_wp2_with (first | ((with_reducible refine gate_callee (f := 145) rfl ?_); refine goesL_ (some 6) rfl rfl Tryd.func145 (by kernel_rfl) rfl #[.pointer (some ⟨g, 0, none⟩), .int .u8 58, .int .i64 0] rfl (by (try simp only [List.map_toArray, List.map_cons, List.map_nil]); first | done | rfl | (simp only [List.length_drop, List.length_take]; rfl)) ?_; (with_reducible refine (wire_Reader_number.calls g s0_0 s0_1 58 0 t134 t135 t136 w0 _ ?side1 ?side2 A2.out HT.out).mono ?_); (case side1 => repeat (first | (with_reducible first | exact HI0.out | apply IsS189.alloc | apply IsS189.drewN | apply IsS189.drew | apply IsS189.set_0 | apply IsS189.set_1) | exact HI0.out)); (case side2 => repeat (first | (with_reducible first | exact HB.out | apply below_alloc | apply pw_below_drewN | apply below_drew1 | refine below_set ?_ (IsS189.ge HI0.out)) | exact HB.out)); rintro e w5 ⟨rfl, hi, hb, hk⟩; refine ⟨_, rfl, ?_⟩; have n0_ := Aside0.mk (KeepBut.trans (by repeat (first | (with_reducible first | exact HK.out | apply KeepBut.set_ | apply keep_drewN | apply keep_drew | apply keep_alloc) | exact HK.out)) hk (.inl rfl)); have n1_ := Aside0.mk (hb); have n2_ := Aside0.mk (hi); clear HK; clear HB; clear HI0; have HK := n0_; have HB := n1_; have HI0 := n2_; clear n0_ n1_ n2_; (try clear hb); (try clear hb2); (try clear hk); (try clear hi); obtain ⟨HGz6, hgz6⟩ := HI0.out; have hcz6_0 := cellS189_0 HGz6; have hcz6_1 := cellS189_1 HGz6; have hfz6_0 := blk_frozen HGz6 0; have hfz6_1 := blk_frozen HGz6 1; clear HGz6 hgz6) | ((with_reducible refine gate_callee (f := 146) rfl ?_); refine goesL_ (some 15) rfl rfl Tryd.func146 (by kernel_rfl) rfl #[.pointer (some ⟨g, 0, none⟩)] rfl (by (try simp only [List.map_toArray, List.map_cons, List.map_nil]); first | done | rfl | (simp only [List.length_drop, List.length_take]; rfl)) ?_; (with_reducible refine (wire_Reader_fail.calls g t135 t136 t137 t138 w0 _ ?side1 ?side2 A4.out).mono ?_); (case side1 => repeat (first | (with_reducible first | exact HI0.out | apply IsS189.alloc | apply IsS189.drewN | apply IsS189.drew | apply IsS189.set_0 | apply IsS189.set_1) | exact HI0.out)); (case side2 => repeat (first | (with_reducible first | exact HB.out | apply below_alloc | apply pw_below_drewN | apply below_drew1 | refine below_set ?_ (IsS189.ge HI0.out)) | exact HB.out)); rintro e w7 ⟨rfl, hi, hb, hk⟩; refine ⟨_, rfl, ?_⟩; have n0_ := Aside0.mk (KeepBut.trans (by repeat (first | (with_reducible first | exact HK.out | apply KeepBut.set_ | apply keep_drewN | apply keep_drew | apply keep_alloc) | exact HK.out)) hk (.inl rfl)); have n1_ := Aside0.mk (hb); have n2_ := Aside0.mk (hi); clear HK; clear HB; clear HI0; have HK := n0_; have HB := n1_; have HI0 := n2_; clear n0_ n1_ n2_; (try clear hb); (try clear hb2); (try clear hk); (try clear hi)))
    go_ret
    exact ⟨by first | rfl | (simp [errW_none, errW_some] <;> rfl) | (simp [*, errW_none, errW_some] <;> rfl), by repeat (first | (with_reducible first | exact HI0.out | apply IsS189.alloc | apply IsS189.drewN | apply IsS189.drew | apply IsS189.set_0 | apply IsS189.set_1) | exact HI0.out), by repeat (first | (with_reducible first | exact HB.out | apply below_alloc | apply pw_below_drewN | apply below_drew1 | refine below_set ?_ (IsS189.ge HI0.out)) | exact HB.out), by repeat (first | (with_reducible first | exact HK.out | apply KeepBut.set_ | apply keep_drewN | apply keep_drew | apply keep_alloc) | exact HK.out)⟩
  · rw [if_neg c3] at H
    have c3b0 : decide ((t135.size : Int) < t134) = false := decide_eq_false c3
    clear c3
    by_cases c8 : 0 ≤ t134
    · rw [if_pos c8] at H
      have c8b0 := eq_true c8
      have c8b1 : decide (0 ≤ t134) = true := decide_eq_true c8
      clear c8
      by_cases c9 : t134 ≤ (t135.size : Int)
      · rw [if_pos c9] at H
        have c9b0 := eq_true c9
        have c9b1 : decide (t134 ≤ (t135.size : Int)) = true := decide_eq_true c9
        clear c9
        have c10b0 := eq_true (of_decide_eq_true (by first | (with_reducible assumption) | assumption) : 0 ≤ t134)
        have c11b0 := eq_true (of_decide_eq_true (by first | (with_reducible assumption) | assumption) : t134 ≤ (t135.size : Int))
        replace H := Option.bind_eq_some_iff.mp H
        obtain ⟨⟨t139, t140⟩, A120, H⟩ := H
        replace H : (if t140 = true then (some ((⟨#[]⟩ : ByteArray), t139, t140)) else (some (t135.extract 0 (t134 : Int).toNat, t139, t140))) = some (r1, r2, r3) := H
        have A12 := Aside0.mk A120
        clear A120
        by_cases c13 : t140 = true
        · subst c13
          have H1 : (some ((⟨#[]⟩ : ByteArray), t139, true)) = some (r1, r2, r3) := by rw [if_pos rfl] at H; exact H
          clear H
          have H := H1
          clear H1
          simp only [Option.some.injEq, Prod.mk.injEq] at H
          obtain ⟨rfl, rfl, rfl⟩ := H
          go_enter Tryd.func37, Tryd.ntmps37
          go_wp2_with (first | ((with_reducible refine gate_callee (f := 145) rfl ?_); refine goesL_ (some 6) rfl rfl Tryd.func145 (by kernel_rfl) rfl #[.pointer (some ⟨g, 0, none⟩), .int .u8 58, .int .i64 0] rfl (by (try simp only [List.map_toArray, List.map_cons, List.map_nil]); first | done | rfl | (simp only [List.length_drop, List.length_take]; rfl)) ?_; (with_reducible refine (wire_Reader_number.calls g s0_0 s0_1 58 0 t134 t135 t136 w0 _ ?side1 ?side2 A2.out HT.out).mono ?_); (case side1 => repeat (first | (with_reducible first | exact HI0.out | apply IsS189.alloc | apply IsS189.drewN | apply IsS189.drew | apply IsS189.set_0 | apply IsS189.set_1) | exact HI0.out)); (case side2 => repeat (first | (with_reducible first | exact HB.out | apply below_alloc | apply pw_below_drewN | apply below_drew1 | refine below_set ?_ (IsS189.ge HI0.out)) | exact HB.out)); rintro e w14 ⟨rfl, hi, hb, hk⟩; refine ⟨_, rfl, ?_⟩; have n0_ := Aside0.mk (KeepBut.trans (by repeat (first | (with_reducible first | exact HK.out | apply KeepBut.set_ | apply keep_drewN | apply keep_drew | apply keep_alloc) | exact HK.out)) hk (.inl rfl)); have n1_ := Aside0.mk (hb); have n2_ := Aside0.mk (hi); clear HK; clear HB; clear HI0; have HK := n0_; have HB := n1_; have HI0 := n2_; clear n0_ n1_ n2_; (try clear hb); (try clear hb2); (try clear hk); (try clear hi); obtain ⟨HGz15, hgz15⟩ := HI0.out; have hcz15_0 := cellS189_0 HGz15; have hcz15_1 := cellS189_1 HGz15; have hfz15_0 := blk_frozen HGz15 0; have hfz15_1 := blk_frozen HGz15 1; clear HGz15 hgz15) | ((with_reducible refine gate_callee (f := 147) rfl ?_); refine goesL_ (some 32) rfl rfl Tryd.func147 (by kernel_rfl) rfl #[.pointer (some ⟨g, 0, none⟩), .string (⟨#[44]⟩ : ByteArray)] rfl (by (try simp only [List.map_toArray, List.map_cons, List.map_nil]); first | done | rfl | (simp only [List.length_drop, List.length_take]; rfl)) ?_; (with_reducible refine (wire_Reader_close.calls g (t135.extract (t134 : Int).toNat t135.size) t136 (⟨#[44]⟩ : ByteArray) t139 true w0 _ ?side1 ?side2 A12.out).mono ?_); (case side1 => repeat (first | (with_reducible first | exact HI0.out | apply IsS189.alloc | apply IsS189.drewN | apply IsS189.drew | apply IsS189.set_0 | apply IsS189.set_1) | exact HI0.out)); (case side2 => repeat (first | (with_reducible first | exact HB.out | apply below_alloc | apply pw_below_drewN | apply below_drew1 | refine below_set ?_ (IsS189.ge HI0.out)) | exact HB.out)); rintro e w16 ⟨rfl, hi, hb, hk⟩; refine ⟨_, rfl, ?_⟩; have n0_ := Aside0.mk (KeepBut.trans (by repeat (first | (with_reducible first | exact HK.out | apply KeepBut.set_ | apply keep_drewN | apply keep_drew | apply keep_alloc) | exact HK.out)) hk (.inl rfl)); have n1_ := Aside0.mk (hb); have n2_ := Aside0.mk (hi); clear HK; clear HB; clear HI0; have HK := n0_; have HB := n1_; have HI0 := n2_; clear n0_ n1_ n2_; (try clear hb); (try clear hb2); (try clear hk); (try clear hi); obtain ⟨HGz17, hgz17⟩ := HI0.out; have hcz17_0 := cellS189_0 HGz17; have hcz17_1 := cellS189_1 HGz17; have hfz17_0 := blk_frozen HGz17 0; have hfz17_1 := blk_frozen HGz17 1; clear HGz17 hgz17))
          go_ret
          exact ⟨by first | rfl | (simp [errW_none, errW_some] <;> rfl) | (simp [*, errW_none, errW_some] <;> rfl), by repeat (first | (with_reducible first | exact HI0.out | apply IsS189.alloc | apply IsS189.drewN | apply IsS189.drew | apply IsS189.set_0 | apply IsS189.set_1) | exact HI0.out), by repeat (first | (with_reducible first | exact HB.out | apply below_alloc | apply pw_below_drewN | apply below_drew1 | refine below_set ?_ (IsS189.ge HI0.out)) | exact HB.out), by repeat (first | (with_reducible first | exact HK.out | apply KeepBut.set_ | apply keep_drewN | apply keep_drew | apply keep_alloc) | exact HK.out)⟩
        · replace c13 := Bool.eq_false_iff.mpr c13
          subst c13
          have H1 : (some (t135.extract 0 (t134 : Int).toNat, t139, false)) = some (r1, r2, r3) := by rw [if_neg (show ¬ (false = true) by decide)] at H; exact H
          clear H
          have H := H1
          clear H1
          simp only [Option.some.injEq, Prod.mk.injEq] at H
          obtain ⟨rfl, rfl, rfl⟩ := H
          go_enter Tryd.func37, Tryd.ntmps37
          go_wp2_with (first | ((with_reducible refine gate_callee (f := 145) rfl ?_); refine goesL_ (some 6) rfl rfl Tryd.func145 (by kernel_rfl) rfl #[.pointer (some ⟨g, 0, none⟩), .int .u8 58, .int .i64 0] rfl (by (try simp only [List.map_toArray, List.map_cons, List.map_nil]); first | done | rfl | (simp only [List.length_drop, List.length_take]; rfl)) ?_; (with_reducible refine (wire_Reader_number.calls g s0_0 s0_1 58 0 t134 t135 t136 w0 _ ?side1 ?side2 A2.out HT.out).mono ?_); (case side1 => repeat (first | (with_reducible first | exact HI0.out | apply IsS189.alloc | apply IsS189.drewN | apply IsS189.drew | apply IsS189.set_0 | apply IsS189.set_1) | exact HI0.out)); (case side2 => repeat (first | (with_reducible first | exact HB.out | apply below_alloc | apply pw_below_drewN | apply below_drew1 | refine below_set ?_ (IsS189.ge HI0.out)) | exact HB.out)); rintro e w18 ⟨rfl, hi, hb, hk⟩; refine ⟨_, rfl, ?_⟩; have n0_ := Aside0.mk (KeepBut.trans (by repeat (first | (with_reducible first | exact HK.out | apply KeepBut.set_ | apply keep_drewN | apply keep_drew | apply keep_alloc) | exact HK.out)) hk (.inl rfl)); have n1_ := Aside0.mk (hb); have n2_ := Aside0.mk (hi); clear HK; clear HB; clear HI0; have HK := n0_; have HB := n1_; have HI0 := n2_; clear n0_ n1_ n2_; (try clear hb); (try clear hb2); (try clear hk); (try clear hi); obtain ⟨HGz19, hgz19⟩ := HI0.out; have hcz19_0 := cellS189_0 HGz19; have hcz19_1 := cellS189_1 HGz19; have hfz19_0 := blk_frozen HGz19 0; have hfz19_1 := blk_frozen HGz19 1; clear HGz19 hgz19) | ((with_reducible refine gate_callee (f := 147) rfl ?_); refine goesL_ (some 32) rfl rfl Tryd.func147 (by kernel_rfl) rfl #[.pointer (some ⟨g, 0, none⟩), .string (⟨#[44]⟩ : ByteArray)] rfl (by (try simp only [List.map_toArray, List.map_cons, List.map_nil]); first | done | rfl | (simp only [List.length_drop, List.length_take]; rfl)) ?_; (with_reducible refine (wire_Reader_close.calls g (t135.extract (t134 : Int).toNat t135.size) t136 (⟨#[44]⟩ : ByteArray) t139 false w0 _ ?side1 ?side2 A12.out).mono ?_); (case side1 => repeat (first | (with_reducible first | exact HI0.out | apply IsS189.alloc | apply IsS189.drewN | apply IsS189.drew | apply IsS189.set_0 | apply IsS189.set_1) | exact HI0.out)); (case side2 => repeat (first | (with_reducible first | exact HB.out | apply below_alloc | apply pw_below_drewN | apply below_drew1 | refine below_set ?_ (IsS189.ge HI0.out)) | exact HB.out)); rintro e w20 ⟨rfl, hi, hb, hk⟩; refine ⟨_, rfl, ?_⟩; have n0_ := Aside0.mk (KeepBut.trans (by repeat (first | (with_reducible first | exact HK.out | apply KeepBut.set_ | apply keep_drewN | apply keep_drew | apply keep_alloc) | exact HK.out)) hk (.inl rfl)); have n1_ := Aside0.mk (hb); have n2_ := Aside0.mk (hi); clear HK; clear HB; clear HI0; have HK := n0_; have HB := n1_; have HI0 := n2_; clear n0_ n1_ n2_; (try clear hb); (try clear hb2); (try clear hk); (try clear hi); obtain ⟨HGz21, hgz21⟩ := HI0.out; have hcz21_0 := cellS189_0 HGz21; have hcz21_1 := cellS189_1 HGz21; have hfz21_0 := blk_frozen HGz21 0; have hfz21_1 := blk_frozen HGz21 1; clear HGz21 hgz21))
          go_ret
          exact ⟨by first | rfl | (simp [errW_none, errW_some] <;> rfl) | (simp [*, errW_none, errW_some] <;> rfl), by repeat (first | (with_reducible first | exact HI0.out | apply IsS189.alloc | apply IsS189.drewN | apply IsS189.drew | apply IsS189.set_0 | apply IsS189.set_1) | exact HI0.out), by repeat (first | (with_reducible first | exact HB.out | apply below_alloc | apply pw_below_drewN | apply below_drew1 | refine below_set ?_ (IsS189.ge HI0.out)) | exact HB.out), by repeat (first | (with_reducible first | exact HK.out | apply KeepBut.set_ | apply keep_drewN | apply keep_drew | apply keep_alloc) | exact HK.out)⟩
      · rw [if_neg c9] at H
        exact absurd H (by simp)
    · rw [if_neg c8] at H
      exact absurd H (by simp)

/-! ### wire_Reader_Nums: function 38 -/
theorem wire_Reader_Nums.ba_size (l : List UInt8) : (⟨l.toArray⟩ : ByteArray).size = l.length := by show l.toArray.size = _; simp
theorem wire_Reader_Nums.ba_eta (s : ByteArray) : (⟨s.data.toList.toArray⟩ : ByteArray) = s := by rw [Array.toArray_toList]
theorem wire_Reader_Nums.close_eq (l : List UInt8) (b : Bool) (c : UInt8) : wire_Reader_close.f ⟨l.toArray⟩ b ⟨#[c]⟩ = some (⟨(WireMath.close c (l, b)).1.toArray⟩, (WireMath.close c (l, b)).2) := by
  unfold wire_Reader_close.f
  have e : (⟨#[c]⟩ : ByteArray).data.toList = [c] := rfl
  rw [e]
  cases l with
  | nil => rfl
  | cons x t =>
    simp only [List.toList_toArray]
    by_cases hx : x = c
    · subst hx
      rw [if_pos (by simp [Lib.hasPrefix])]
      simp [Lib.trimPrefix, Lib.hasPrefix, WireMath.close]
    · rw [if_neg (by simp [Lib.hasPrefix, Ne.symm hx])]
      simp [WireMath.close, hx, WireMath.failed]
theorem wire_Reader_Nums.number_eq (e : UInt8) (he : 57 < e.toNat) (least : Int) (l : List UInt8) (b : Bool) : wire_Reader_number.f ⟨l.toArray⟩ b (e.toNat : Int) least = some ((WireMath.number e least (l, b)).1, ⟨(WireMath.number e least (l, b)).2.1.toArray⟩, (WireMath.number e least (l, b)).2.2) := by
  unfold wire_Reader_number.f wire_Reader_number.rd
  have := e.toNat_lt
  rw [if_pos (by omega)]
  have : ((e.toNat : Int)).toNat.toUInt8 = e := by simp
  rw [this]
theorem wire_Reader_Nums.int_eq (l : List UInt8) (b : Bool) : wire_Reader_Int.f ⟨l.toArray⟩ b = some ((WireMath.rInt (l, b)).1, ⟨(WireMath.rInt (l, b)).2.1.toArray⟩, (WireMath.rInt (l, b)).2.2) := by
  unfold wire_Reader_Int.f
  rw [show (59 : Int) = ((59 : UInt8).toNat : Int) from rfl, wire_Reader_Nums.number_eq 59 (by decide)]
  rfl
def wire_Reader_Nums.f (s0_0 : ByteArray) (s0_1 : Bool) : Option (List Int × ByteArray × Bool) :=
  if s0_0.size ≤ 17592186044400 then some ((WireMath.rNums (wire_Reader_number.rd s0_0 s0_1)).1, ⟨(WireMath.rNums (wire_Reader_number.rd s0_0 s0_1)).2.1.toArray⟩, (WireMath.rNums (wire_Reader_number.rd s0_0 s0_1)).2.2) else none
theorem wire_Reader_Nums.grow {w0 w : World} {g : Nat} {s : ByteArray} {b : Bool} {W W1 : World} {row : Option Nat} (h : wire_Reader_number.St w0 w g s b W) (hg : W.grownBy W1 row) (hr : ∀ k, row = some k → w.heap.size ≤ k) (hw : w0.heap.size ≤ w.heap.size) (hgw : g < w.heap.size) : wire_Reader_number.St w0 w g s b W1 := by
  refine ⟨IsS189.grown h.1 hg (fun e => by have := hr g e.symm; omega), pw_below_grown h.2.1 row h.2.1.size hg (fun k e => Nat.le_trans hw (hr k e)), h.2.2.trans (KeepBut.of_grown hg g) ?_⟩
  cases row with
  | none => exact .inl rfl
  | some k => exact .inr ⟨k, rfl, hr k rfl⟩
theorem wire_Reader_Nums.own_ne {W : World} {base : Nat} {e : TypeId} {size n : Nat} {v : Value} {xs : List Value} {g : Nat} (ho : W.ownsRow base e size v n xs) (hg : g < base) : v.ownBlock ≠ some g := fun h => by have := own_base ho g h; omega
theorem wire_Reader_Nums.own_to {W W1 : World} {g base : Nat} {e : TypeId} {size n : Nat} {v : Value} {xs : List Value} (hk : KeepBut W W1 g none) (ho : W.ownsRow base e size v n xs) (hg : g < base) : W1.ownsRow base e size v n xs :=
  hk.own ho (wire_Reader_Nums.own_ne ho hg) (by cases v.ownBlock <;> simp)
set_option maxHeartbeats 4000000 in
set_option maxRecDepth 100000 in
theorem wire_Reader_Nums.items (g : Nat) (l : List UInt8) (b : Bool) (w0 w : World) (hI : IsS189 w0 w g ⟨l.toArray⟩ b) (hB : Below w0.heap.size w0 w) (hT : Tabs w0) (hs : l.length ≤ 17592186044400) :
    Calls Tryd.prog 148 #[.pointer (some ⟨g, 0, none⟩), .func (.func 36) #[.pointer (some ⟨g, 0, none⟩)] #[]] w fun e w' => ∃ v0_ : Value, e = .returned v0_ ∧ Kd.R (Kd.int .i64) 3 w' w.heap.size (fun _ => True) v0_ (WireMath.rNums (l, b)).1 ∧ IsS189 w0 w' g ⟨(WireMath.rNums (l, b)).2.1.toArray⟩ (WireMath.rNums (l, b)).2.2 ∧ Below w0.heap.size w0 w' ∧ KeepBut w w' g none := by
  obtain ⟨i0, hi0, hz0, hz1, hz2⟩ := info_parts info3
  have hgw := IsS189.lt hI
  have hww := hB.size
  have HI := Aside0.mk hI
  have HT := Aside0.mk hT
  have HB := Aside0.mk hB
  have HS := Aside0.mk hs
  have hle := (WireMath.number_le 91 (by decide) 0 (l, b))
  have hnn := WireMath.number_nonneg 91 (l, b)
  have hnx := WireMath.number_max 91 0 (l, b)
  have hnq := wire_Reader_Nums.number_eq 91 (by decide) 0 l b
  have hR : WireMath.rNums (l, b) = (if (WireMath.close 93 (WireMath.rMany WireMath.rInt (WireMath.number 91 0 (l, b)).1.toNat (WireMath.number 91 0 (l, b)).2).2).2 then [] else (WireMath.rMany WireMath.rInt (WireMath.number 91 0 (l, b)).1.toNat (WireMath.number 91 0 (l, b)).2).1, WireMath.close 93 (WireMath.rMany WireMath.rInt (WireMath.number 91 0 (l, b)).1.toNat (WireMath.number 91 0 (l, b)).2).2) := rfl
  generalize hp : WireMath.number 91 0 (l, b) = p at hle hnn hnx hnq hR
  obtain ⟨n, u, d⟩ := p
  simp only at hle hnn hnx hnq hR
  obtain ⟨m, rfl⟩ : ∃ m : Nat, n = m := ⟨n.toNat, by omega⟩
  rw [Int.toNat_natCast] at hR
  have HN := Aside0.mk hnq
  have HR := Aside0.mk hR
  have HL := Aside0.mk hle
  have HX := Aside0.mk (show m ≤ 9223372036854775807 by omega)
  clear hI hB hT hs hp hle hnn hnx hnq hR
  go_enter Tryd.func148, Tryd.ntmps148
  go_wp2_with fail
  refine (wire_Reader_number.calls g _ _ _ _ _ _ _ w0 _ HI.out HB.out HN.out HT.out).mono ?_
  rintro e w1 ⟨rfl, hi1, hb1, hk1⟩
  have HS1 : Aside0 (wire_Reader_number.St w0 w g ⟨u.toArray⟩ d w1) := ⟨⟨hi1, hb1, hk1⟩⟩
  clear hi1 hb1 hk1 HN
  go_wp2
  go_loopw [5, 6] (fun v5 v6 wr => ∃ (m' : Nat) (acc : List Int) (u' : List UInt8) (d' : Bool), v6 = .int .i64 m' ∧ Aside0 (m' ≤ 9223372036854775807) ∧ Aside0 (wr.ownsRow w.heap.size 3 1 v5 acc.length (acc.map (Value.int .i64))) ∧ Aside0 (wire_Reader_number.St w0 w g ⟨u'.toArray⟩ d' wr) ∧ Aside0 ((acc ++ (WireMath.rMany WireMath.rInt m' (u', d')).1, (WireMath.rMany WireMath.rInt m' (u', d')).2) = WireMath.rMany WireMath.rInt m (u, d)) ∧ Aside0 (2 * acc.length ≤ l.length + 2 ∧ (d' = false → 2 * acc.length + u'.length ≤ l.length))) (fun _ v6 _ => (intOf v6).toNat)
  case atStart => exact ⟨m, [], u, d, rfl, HX, ⟨own_nil _ _ _ _⟩, HS1, ⟨by simp⟩, ⟨by simp, fun _ => by have := HL.out.1; simp; omega⟩⟩
  case round =>
    obtain ⟨m', acc, u', d', rfl, hmx, ho, hst, hq, hbd⟩ := hrel
    obtain ⟨hbk, _⟩ := hst.out.1
    have hc1 := cellS189_1 hbk
    have hc0 := cellS189_0 hbk
    clear hbk
    rcases (show m' = 0 ∨ (0 < m' ∧ d' = true) ∨ (0 < m' ∧ d' = false) by cases d' <;> simp <;> omega) with hm | ⟨hm, hd⟩ | ⟨hm, hd⟩
    · have HE := Aside0.mk (WireMath.rMany_end WireMath.rInt m' (u', d') (.inl hm))
      have hm1 : ¬ (0 : Int) < (m' : Int) := by omega
      have hm2 : decide ((0 : Int) < (m' : Int)) = false := decide_eq_false hm1
      clear hm
      go_wp2_with fail
      obtain ⟨zu, zd, hz⟩ : ∃ zu zd, WireMath.close 93 (u', d') = (zu, zd) := ⟨_, _, rfl⟩
      have hcl := wire_Reader_Nums.close_eq u' d' 93
      rw [hz] at hcl
      have HC := Aside0.mk hcl
      have HF : Aside0 (WireMath.rNums (l, b) = (if zd then [] else acc, (zu, zd))) := ⟨by rw [HR.out, ← hq.out, HE.out]; simp [hz]⟩
      clear hz hcl
      refine (wire_Reader_close.calls g _ _ _ _ _ w0 _ hst.out.1 hst.out.2.1 HC.out).mono ?_
      rintro e w2 ⟨rfl, hi2, hb2, hk2⟩
      have HO2 := Aside0.mk (wire_Reader_Nums.own_to hk2 ho.out hgw)
      have HS2 : Aside0 (wire_Reader_number.St w0 w g ⟨zu.toArray⟩ zd w2) := ⟨⟨hi2, hb2, hst.out.2.2.trans hk2 (.inl rfl)⟩⟩
      obtain ⟨hbk2, _⟩ := hi2
      have hc2 := cellS189_1 hbk2
      clear hbk2 hb2 hk2 ho hst hq hbd hc0 hc1
      cases zd with
      | true =>
        go_wp2
        go_ret
        refine ⟨_, rfl, ?_, ?_, HS2.out.2.1, HS2.out.2.2⟩
        · rw [HF.out]; exact Kd.R_nil _ _ _ _ _
        · rw [HF.out]; exact HS2.out.1
      | false =>
        go_wp2
        go_ret
        refine ⟨_, rfl, ?_, ?_, HS2.out.2.1, HS2.out.2.2⟩
        · rw [HF.out]; exact Kd.R_of_own HO2.out (fun _ _ => trivial)
        · rw [HF.out]; exact HS2.out.1
    · subst hd
      have HE := Aside0.mk (WireMath.rMany_end WireMath.rInt m' (u', true) (.inr rfl))
      have hm1 : (0 : Int) < (m' : Int) := by omega
      have hm2 : decide ((0 : Int) < (m' : Int)) = true := decide_eq_true hm1
      go_wp2_with fail
      obtain ⟨zu, zd, hz⟩ : ∃ zu zd, WireMath.close 93 (u', true) = (zu, zd) := ⟨_, _, rfl⟩
      have hcl := wire_Reader_Nums.close_eq u' true 93
      rw [hz] at hcl
      have HC := Aside0.mk hcl
      have HF : Aside0 (WireMath.rNums (l, b) = (if zd then [] else acc, (zu, zd))) := ⟨by rw [HR.out, ← hq.out, HE.out]; simp [hz]⟩
      clear hz hcl
      refine (wire_Reader_close.calls g _ _ _ _ _ w0 _ hst.out.1 hst.out.2.1 HC.out).mono ?_
      rintro e w2 ⟨rfl, hi2, hb2, hk2⟩
      have HO2 := Aside0.mk (wire_Reader_Nums.own_to hk2 ho.out hgw)
      have HS2 : Aside0 (wire_Reader_number.St w0 w g ⟨zu.toArray⟩ zd w2) := ⟨⟨hi2, hb2, hst.out.2.2.trans hk2 (.inl rfl)⟩⟩
      obtain ⟨hbk2, _⟩ := hi2
      have hc2 := cellS189_1 hbk2
      clear hbk2 hb2 hk2 ho hst hq hbd hc0 hc1
      cases zd with
      | true =>
        go_wp2
        go_ret
        refine ⟨_, rfl, ?_, ?_, HS2.out.2.1, HS2.out.2.2⟩
        · rw [HF.out]; exact Kd.R_nil _ _ _ _ _
        · rw [HF.out]; exact HS2.out.1
      | false =>
        go_wp2
        go_ret
        refine ⟨_, rfl, ?_, ?_, HS2.out.2.1, HS2.out.2.2⟩
        · rw [HF.out]; exact Kd.R_of_own HO2.out (fun _ _ => trivial)
        · rw [HF.out]; exact HS2.out.1
    · subst hd
      obtain ⟨m'', rfl⟩ : ∃ k, m' = k + 1 := ⟨m' - 1, by omega⟩
      have hm1 : (0 : Int) < ((m'' + 1 : Nat) : Int) := by omega
      have hm2 : decide ((0 : Int) < ((m'' + 1 : Nat) : Int)) = true := decide_eq_true hm1
      have hm3 : (m'' : Int) ≤ 9223372036854775806 := by have := hmx.out; omega
      have hm4 : (0 : Int) ≤ (m'' : Int) := Int.natCast_nonneg _
      have hlr := WireMath.number_le 59 (by decide) (-9223372036854775808) (u', false)
      have hir := wire_Reader_Nums.int_eq u' false
      obtain ⟨x, u2, d2, hx⟩ : ∃ x u2 d2, WireMath.rInt (u', false) = (x, (u2, d2)) := ⟨_, _, _, rfl⟩
      have hms := WireMath.rMany_succ WireMath.rInt m'' u' hx
      rw [hx] at hir
      rw [show WireMath.number 59 (-9223372036854775808) (u', false) = (x, (u2, d2)) from hx] at hlr
      simp only at hir hlr
      have HIr := Aside0.mk hir
      have HQ : Aside0 (((acc ++ [x]) ++ (WireMath.rMany WireMath.rInt m'' (u2, d2)).1, (WireMath.rMany WireMath.rInt m'' (u2, d2)).2) = WireMath.rMany WireMath.rInt m (u, d)) := ⟨by rw [← hq.out, hms]; simp⟩
      have HBD : Aside0 (2 * (acc ++ [x]).length ≤ l.length + 2 ∧ (d2 = false → 2 * (acc ++ [x]).length + u2.length ≤ l.length)) := ⟨by
        have h1 := hbd.out.2 rfl
        refine ⟨by simp; omega, fun h => ?_⟩
        have := (hlr.2 h).2
        simp; omega⟩
      have HSl := Aside0.mk (show acc.length + 1 ≤ 17592186044400 by have := hbd.out.2 rfl; have := HS.out; omega)
      clear hir hlr hx hms hq hbd
      go_wp2_with fail
      refine (wire_Reader_Int.calls g _ _ _ _ _ w0 _ hst.out.1 hst.out.2.1 HIr.out HT.out).mono ?_
      rintro e w2 ⟨rfl, hi2, hb2, hk2⟩
      have HO2 := Aside0.mk (wire_Reader_Nums.own_to hk2 ho.out hgw)
      have HS2 : Aside0 (wire_Reader_number.St w0 w g ⟨u2.toArray⟩ d2 w2) := ⟨⟨hi2, hb2, hst.out.2.2.trans hk2 (.inl rfl)⟩⟩
      clear hi2 hb2 hk2 ho hst HIr
      go_wp2_with (at_builtin; refine wpList_append_own _ rfl _ _ 22 rfl w.heap.size 3 i0 (.int .i64 0) 1 8 Tryd.underlying22 hi0 hz0 hz1 hz2 rfl (by decide) _ _ _ rfl (HO2.out.alloc _) ⟨w2.heap.size, 0, none⟩ 1 1 [.int .i64 x] rfl rfl ?c1 ?c2 ?c3 ?c4 ?c5 ?_)
      case c1 =>
        intro j u hj
        match j, hj with
        | 0, hj => simp at hj; subst hj; simp [Addr.add]
      case c2 => intro u hu; simp at hu; subst hu; rfl
      case c3 => have := HSl.out; unfold maxLen; omega
      case c4 => have := HSl.out; omega
      case c5 => have := HS2.out.2.2.1; simp; omega
      intro v' w3 hown' hgrow _
      have HO3 := Aside0.mk hown'
      have HS3 := Aside0.mk (wire_Reader_Nums.grow (HS2.out.on (below_alloc (Below.refl _ _) _)) hgrow (fun k hk => own_base HO2.out k hk) hww hgw)
      clear hown' hgrow
      go_wp2
      go_roundw
      case rel => exact ⟨m'', acc ++ [x], u2, d2, by go_num, ⟨by omega⟩, ⟨by simpa using HO3.out⟩, HS3, HQ, HBD⟩
      case measure => simp [intOf]
set_option maxHeartbeats 1000000 in
set_option maxRecDepth 100000 in
theorem wire_Reader_Nums.calls (g : Nat) (s0_0 : ByteArray) (s0_1 : Bool) (r1 : List Int) (r2 : ByteArray) (r3 : Bool) (w0 w : World) (hI : IsS189 w0 w g s0_0 s0_1) (hB : Below w0.heap.size w0 w) (h : wire_Reader_Nums.f s0_0 s0_1 = some (r1, r2, r3)) (hT : Tabs w0) :
    Calls Tryd.prog 38 #[.pointer (some ⟨g, 0, none⟩)] w fun e w' => ∃ v0_ : Value, e = .returned (v0_) ∧ Kd.R (Kd.int .i64) 3 w' w.heap.size (fun _ => True) v0_ r1 ∧ IsS189 w0 w' g r2 r3 ∧ Below w0.heap.size w0 w' ∧ KeepBut w w' g none := by
  unfold wire_Reader_Nums.f at h
  split at h
  · rename_i hs
    simp only [Option.some.injEq, Prod.mk.injEq] at h
    obtain ⟨rfl, rfl, rfl⟩ := h
    have H := Aside0.mk (wire_Reader_Nums.items g s0_0.data.toList s0_1 w0 w (by rw [wire_Reader_Nums.ba_eta]; exact hI) hB hT (by rw [Array.length_toList]; exact hs))
    clear hI hB hT hs
    go_enter Tryd.func38, Tryd.ntmps38
    go_wp2_with (go_at_call 148; refine H.out.mono ?_; rintro e w1 ⟨v0, rfl, hq⟩; have HQ := Aside0.mk hq; clear hq)
    go_ret
    exact ⟨_, rfl, HQ.out⟩
  · cases h

end Go.Proofs.YtigdjhnpngjhjaaDoor.PWt
