-- written by a program of this claim's own (wip/tools/pp.py), after the kit's printer
import Derived.Test.YtigdjhnpngjhjaaDoorPWtx0
import Derived.Test.YtigdjhnpngjhjaaDoorPWtx1
import Derived.Test.YtigdjhnpngjhjaaDoorPWtx2
import Derived.Test.YtigdjhnpngjhjaaDoorPWtx3
import Derived.Test.YtigdjhnpngjhjaaDoorPWtx4
import Derived.Test.YtigdjhnpngjhjaaDoorPWtx5
namespace Go.Proofs.YtigdjhnpngjhjaaDoor.PWt
open Go.RowKit Go.Proofs.YtigdjhnpngjhjaaDoorW.PrintWords Go.Proofs.YtigdjhnpngjhjaaDoorW.PrintLast Go.Proofs.YtigdjhnpngjhjaaDoorW.PrintMore
attribute [local go_sem] max2_int min2_int max_two min_two max_three min_three max_four min_four   -- for this text's walks alone
set_option linter.unusedVariables false
set_option linter.unusedSimpArgs false

/-! ### taquinlaw01_WireReads: function 7 -/
mutual
def taquinlaw01_WireReads.j0 : Nat → ByteArray → List Int → Bool → Bool → Option (Bool)
  | 0, _, _, _, _ => none
  | k + 1, x0, x1, x5, x18 => if x18 = true then (some x5) else ((wire_Open.f x0).bind fun bt217 => ((taquinref01_Open.f x0).bind fun bt220 => (taquinlaw01_WireReads.l0 k x1 x5 0 bt217.1 bt217.2 bt220.1 bt220.2)))
def taquinlaw01_WireReads.l0 : Nat → List Int → Bool → Int → ByteArray → Bool → ByteArray → Bool → Option (Bool)
  | 0, _, _, _, _, _, _, _ => none
  | k + 1, x1, x5, x8, x220000, x220001, x223000, x223001 => if x8 < (x1.length : Int) then (if 0 ≤ x8 then ((taquinlaw01_kind.f (rd x1 x8) 0 (⟨#[]⟩ : ByteArray) ([] : List Int) ([] : List ByteArray)).bind fun t224 => (if t224 = 0 then ((wire_Reader_Num.f x220000 x220001).bind fun bt225 => ((taquinref01_Reader_Num.f k x223000 x223001).bind fun bt228 => (taquinlaw01_WireReads.j2 k x1 x5 x8 (bt225.1 == bt228.1) bt225.2.1 bt225.2.2 bt228.2.1 bt228.2.2))) else (if t224 = 1 then ((wire_Reader_Int.f x220000 x220001).bind fun bt231 => ((taquinref01_Reader_Int.f k x223000 x223001).bind fun bt234 => (taquinlaw01_WireReads.j2 k x1 x5 x8 (bt231.1 == bt234.1) bt231.2.1 bt231.2.2 bt234.2.1 bt234.2.2))) else (if t224 = 2 then ((wire_Reader_Text.f x220000 x220001).bind fun bt237 => ((taquinref01_Reader_Text.f k x223000 x223001).bind fun bt240 => (taquinlaw01_WireReads.j2 k x1 x5 x8 (bt237.1.toList == bt240.1.toList) bt237.2.1 bt237.2.2 bt240.2.1 bt240.2.2))) else (if t224 = 3 then ((wire_Reader_Nums.f x220000 x220001).bind fun bt243 => ((taquinref01_Reader_Nums.f k x223000 x223001).bind fun bt248 => ((taquinref01_SameNums.f k bt243.1 bt248.1).bind fun t253 => (taquinlaw01_WireReads.j2 k x1 x5 x8 t253 bt243.2.1 bt243.2.2 bt248.2.1 bt248.2.2)))) else ((wire_Reader_Texts.f x220000 x220001).bind fun bt254 => ((taquinref01_Reader_Texts.f k x223000 x223001).bind fun bt259 => ((taquinref01_SameTexts.f k bt254.1 bt259.1).bind fun t264 => (taquinlaw01_WireReads.j2 k x1 x5 x8 t264 bt254.2.1 bt254.2.2 bt259.2.1 bt259.2.2))))))))) else (none)) else (if x5 = true then ((wire_Reader_Rest.f x220000 x220001).bind fun bt277 => ((taquinref01_Reader_Tail.f x223000 x223001).bind fun bt280 => (if bt277.1.toList = bt280.1.toList then ((wire_Reader_Left.f bt277.2.1 bt277.2.2).bind fun bt283 => ((taquinref01_Reader_Left.f bt280.2.1 bt280.2.2).bind fun bt286 => (if bt283.1 = bt286.1 then ((wire_Reader_Done.f bt283.2.1 bt283.2.2).bind fun bt289 => ((taquinref01_Reader_Done.f bt286.2.1 bt286.2.2).bind fun bt292 => (some (bt289.1 == bt292.1)))) else (none)))) else (none)))) else (none))
def taquinlaw01_WireReads.j2 : Nat → List Int → Bool → Int → Bool → ByteArray → Bool → ByteArray → Bool → Option (Bool)
  | 0, _, _, _, _, _, _, _, _ => none
  | k + 1, x1, x5, x8, x9, x220000, x220001, x223000, x223001 => if x9 = true then ((wire_Reader_Left.f x220000 x220001).bind fun bt265 => ((taquinref01_Reader_Left.f x223000 x223001).bind fun bt268 => (if bt265.1 = bt268.1 then ((wire_Reader_Done.f bt265.2.1 bt265.2.2).bind fun bt271 => ((taquinref01_Reader_Done.f bt268.2.1 bt268.2.2).bind fun bt274 => (if (bt271.1 != bt274.1) = true then (none) else (taquinlaw01_WireReads.l0 k x1 x5 (wrap64 (x8 + 1)) bt271.2.1 bt271.2.2 bt274.2.1 bt274.2.2)))) else (none)))) else (none)
end
def taquinlaw01_WireReads.f (k : Nat) (a0 : ByteArray) (l1 : List Int) : Option (Bool) := (taquinlaw01_small.f k).bind fun t216 => (if (a0.size : Int) > 400 then (taquinlaw01_WireReads.j0 k a0 l1 t216 true) else (taquinlaw01_WireReads.j0 k a0 l1 t216 (decide ((l1.length : Int) > 20))))
theorem taquinlaw01_WireReads.mono_l : ∀ k, (∀ y0 y1 y2 y3, LeO (taquinlaw01_WireReads.j0 k y0 y1 y2 y3) (taquinlaw01_WireReads.j0 (k + 1) y0 y1 y2 y3)) ∧ (∀ y0 y1 y2 y3 y4 y5 y6, LeO (taquinlaw01_WireReads.l0 k y0 y1 y2 y3 y4 y5 y6) (taquinlaw01_WireReads.l0 (k + 1) y0 y1 y2 y3 y4 y5 y6)) ∧ (∀ y0 y1 y2 y3 y4 y5 y6 y7, LeO (taquinlaw01_WireReads.j2 k y0 y1 y2 y3 y4 y5 y6 y7) (taquinlaw01_WireReads.j2 (k + 1) y0 y1 y2 y3 y4 y5 y6 y7))
  | 0 => ⟨fun _ _ _ _ r h => by simp [taquinlaw01_WireReads.j0] at h, fun _ _ _ _ _ _ _ r h => by simp [taquinlaw01_WireReads.l0] at h, fun _ _ _ _ _ _ _ _ r h => by simp [taquinlaw01_WireReads.j2] at h⟩
  | k + 1 => by
    obtain ⟨ih0, ih1, ih2⟩ := taquinlaw01_WireReads.mono_l k
    refine ⟨?_, ?_, ?_⟩
    · intro y0 y1 y2 y3
      unfold taquinlaw01_WireReads.j0
      repeat' first
      | (with_reducible exact ih0 _ _ _ _)
      | (with_reducible exact ih1 _ _ _ _ _ _ _)
      | (with_reducible exact ih2 _ _ _ _ _ _ _ _)
      | (with_reducible exact taquinlaw01_small.mono _)
      | (with_reducible exact taquinref01_Reader_Int.mono _ _ _)
      | (with_reducible exact taquinref01_Reader_Num.mono _ _ _)
      | (with_reducible exact taquinref01_Reader_Nums.mono _ _ _)
      | (with_reducible exact taquinref01_Reader_Text.mono _ _ _)
      | (with_reducible exact taquinref01_Reader_Texts.mono _ _ _)
      | (with_reducible exact taquinref01_SameNums.mono _ _ _)
      | (with_reducible exact taquinref01_SameTexts.mono _ _ _)
      | (with_reducible exact LeO.refl _)
      | (with_reducible exact LeO.none _)
      | (with_reducible refine LeO.ite ?_ ?_)
      | (with_reducible refine LeO.bind ?_ (fun _ => ?_))
      | exact ih0 _ _ _ _
      | exact ih1 _ _ _ _ _ _ _
      | exact ih2 _ _ _ _ _ _ _ _
      | exact taquinlaw01_small.mono _
      | exact taquinref01_Reader_Int.mono _ _ _
      | exact taquinref01_Reader_Num.mono _ _ _
      | exact taquinref01_Reader_Nums.mono _ _ _
      | exact taquinref01_Reader_Text.mono _ _ _
      | exact taquinref01_Reader_Texts.mono _ _ _
      | exact taquinref01_SameNums.mono _ _ _
      | exact taquinref01_SameTexts.mono _ _ _
      | exact LeO.none _
      | refine LeO.ite ?_ ?_
      | refine LeO.bind ?_ (fun _ => ?_)
    · intro y0 y1 y2 y3 y4 y5 y6
      unfold taquinlaw01_WireReads.l0
      repeat' first
      | (with_reducible exact ih0 _ _ _ _)
      | (with_reducible exact ih1 _ _ _ _ _ _ _)
      | (with_reducible exact ih2 _ _ _ _ _ _ _ _)
      | (with_reducible exact taquinlaw01_small.mono _)
      | (with_reducible exact taquinref01_Reader_Int.mono _ _ _)
      | (with_reducible exact taquinref01_Reader_Num.mono _ _ _)
      | (with_reducible exact taquinref01_Reader_Nums.mono _ _ _)
      | (with_reducible exact taquinref01_Reader_Text.mono _ _ _)
      | (with_reducible exact taquinref01_Reader_Texts.mono _ _ _)
      | (with_reducible exact taquinref01_SameNums.mono _ _ _)
      | (with_reducible exact taquinref01_SameTexts.mono _ _ _)
      | (with_reducible exact LeO.refl _)
      | (with_reducible exact LeO.none _)
      | (with_reducible refine LeO.ite ?_ ?_)
      | (with_reducible refine LeO.bind ?_ (fun _ => ?_))
      | exact ih0 _ _ _ _
      | exact ih1 _ _ _ _ _ _ _
      | exact ih2 _ _ _ _ _ _ _ _
      | exact taquinlaw01_small.mono _
      | exact taquinref01_Reader_Int.mono _ _ _
      | exact taquinref01_Reader_Num.mono _ _ _
      | exact taquinref01_Reader_Nums.mono _ _ _
      | exact taquinref01_Reader_Text.mono _ _ _
      | exact taquinref01_Reader_Texts.mono _ _ _
      | exact taquinref01_SameNums.mono _ _ _
      | exact taquinref01_SameTexts.mono _ _ _
      | exact LeO.none _
      | refine LeO.ite ?_ ?_
      | refine LeO.bind ?_ (fun _ => ?_)
    · intro y0 y1 y2 y3 y4 y5 y6 y7
      unfold taquinlaw01_WireReads.j2
      repeat' first
      | (with_reducible exact ih0 _ _ _ _)
      | (with_reducible exact ih1 _ _ _ _ _ _ _)
      | (with_reducible exact ih2 _ _ _ _ _ _ _ _)
      | (with_reducible exact taquinlaw01_small.mono _)
      | (with_reducible exact taquinref01_Reader_Int.mono _ _ _)
      | (with_reducible exact taquinref01_Reader_Num.mono _ _ _)
      | (with_reducible exact taquinref01_Reader_Nums.mono _ _ _)
      | (with_reducible exact taquinref01_Reader_Text.mono _ _ _)
      | (with_reducible exact taquinref01_Reader_Texts.mono _ _ _)
      | (with_reducible exact taquinref01_SameNums.mono _ _ _)
      | (with_reducible exact taquinref01_SameTexts.mono _ _ _)
      | (with_reducible exact LeO.refl _)
      | (with_reducible exact LeO.none _)
      | (with_reducible refine LeO.ite ?_ ?_)
      | (with_reducible refine LeO.bind ?_ (fun _ => ?_))
      | exact ih0 _ _ _ _
      | exact ih1 _ _ _ _ _ _ _
      | exact ih2 _ _ _ _ _ _ _ _
      | exact taquinlaw01_small.mono _
      | exact taquinref01_Reader_Int.mono _ _ _
      | exact taquinref01_Reader_Num.mono _ _ _
      | exact taquinref01_Reader_Nums.mono _ _ _
      | exact taquinref01_Reader_Text.mono _ _ _
      | exact taquinref01_Reader_Texts.mono _ _ _
      | exact taquinref01_SameNums.mono _ _ _
      | exact taquinref01_SameTexts.mono _ _ _
      | exact LeO.none _
      | refine LeO.ite ?_ ?_
      | refine LeO.bind ?_ (fun _ => ?_)
theorem taquinlaw01_WireReads.mono : ∀ a0 a1 k, LeO (taquinlaw01_WireReads.f k a0 a1) (taquinlaw01_WireReads.f (k + 1) a0 a1) := by
  intro a0 a1 k
  obtain ⟨ih0, ih1, ih2⟩ := taquinlaw01_WireReads.mono_l k
  unfold taquinlaw01_WireReads.f
  repeat' first
      | (with_reducible exact ih0 _ _ _ _)
      | (with_reducible exact ih1 _ _ _ _ _ _ _)
      | (with_reducible exact ih2 _ _ _ _ _ _ _ _)
      | (with_reducible exact taquinlaw01_small.mono _)
      | (with_reducible exact taquinref01_Reader_Int.mono _ _ _)
      | (with_reducible exact taquinref01_Reader_Num.mono _ _ _)
      | (with_reducible exact taquinref01_Reader_Nums.mono _ _ _)
      | (with_reducible exact taquinref01_Reader_Text.mono _ _ _)
      | (with_reducible exact taquinref01_Reader_Texts.mono _ _ _)
      | (with_reducible exact taquinref01_SameNums.mono _ _ _)
      | (with_reducible exact taquinref01_SameTexts.mono _ _ _)
      | (with_reducible exact LeO.refl _)
      | (with_reducible exact LeO.none _)
      | (with_reducible refine LeO.ite ?_ ?_)
      | (with_reducible refine LeO.bind ?_ (fun _ => ?_))
      | exact ih0 _ _ _ _
      | exact ih1 _ _ _ _ _ _ _
      | exact ih2 _ _ _ _ _ _ _ _
      | exact taquinlaw01_small.mono _
      | exact taquinref01_Reader_Int.mono _ _ _
      | exact taquinref01_Reader_Num.mono _ _ _
      | exact taquinref01_Reader_Nums.mono _ _ _
      | exact taquinref01_Reader_Text.mono _ _ _
      | exact taquinref01_Reader_Texts.mono _ _ _
      | exact taquinref01_SameNums.mono _ _ _
      | exact taquinref01_SameTexts.mono _ _ _
      | exact LeO.none _
      | refine LeO.ite ?_ ?_
      | refine LeO.bind ?_ (fun _ => ?_)
set_option maxHeartbeats 8000000 in
set_option maxRecDepth 100000 in
theorem taquinlaw01_WireReads.calls (k : Nat) (a0 : ByteArray) (A1 : Option Addr) (c1 : Nat) (l1 : List Int) (r : Bool) (w : World) (hr1 : Kd.C (Kd.int .i64) w A1 l1.length l1) (hc1 : l1.length ≤ c1) (h : taquinlaw01_WireReads.f k a0 l1 = some r) (hT : Tabs w) :
    Calls Tryd.prog 7 #[.string a0, .slice A1 l1.length c1] w fun e w' => e = .returned (.bool r) ∧ Below w.heap.size w w' := by
  have hu25 := Tryd.underlying25
  have HR1 := Aside0.mk hr1
  have HC1 := Aside0.mk hc1
  clear hr1 hc1
  have HT := Aside0.mk hT
  clear hT
  have HB := Aside0.mk (Below.refl w.heap.size w)
  have H : ((taquinlaw01_small.f k).bind fun t216 => (if (a0.size : Int) > 400 then (taquinlaw01_WireReads.j0 k a0 l1 t216 true) else (taquinlaw01_WireReads.j0 k a0 l1 t216 (decide ((l1.length : Int) > 20))))) = some r := h
  clear h
  replace H := Option.bind_eq_some_iff.mp H
  obtain ⟨t216, A30, H⟩ := H
  replace H : (if (a0.size : Int) > 400 then (taquinlaw01_WireReads.j0 k a0 l1 t216 true) else (taquinlaw01_WireReads.j0 k a0 l1 t216 (decide ((l1.length : Int) > 20)))) = some r := H
  have A3 := Aside0.mk A30
  clear A30
  have HC4 := Aside0.mk H
  clear H
  go_enter Tryd.func7, Tryd.ntmps7
  go_upto_region 2 with (first | ((with_reducible refine gate_callee (f := 21) rfl ?_); refine goesL_ (some 10) rfl rfl Tryd.func21 (by kernel_rfl) rfl #[] rfl (by (try simp only [List.map_toArray, List.map_cons, List.map_nil]); first | done | rfl | (simp only [List.length_drop, List.length_take]; rfl)) ?_; (with_reducible refine (taquinlaw01_small.calls k  t216 _ A3.out (HT.out.below (by repeat (first | (with_reducible first | exact HB.out | apply below_alloc | apply pw_below_drewN | apply below_drew1) | exact HB.out)))).mono ?_); rintro e w5 ⟨rfl, hb⟩; refine ⟨_, rfl, ?_⟩; have n0_ := Aside0.mk (below_step (by repeat (first | (with_reducible first | exact HB.out | apply below_alloc | apply pw_below_drewN | apply below_drew1) | exact HB.out)) hb); clear HB; have HB := n0_; clear n0_; (try clear hb); (try clear hb2); (try clear hk); (try clear hi)))
  (try simp only [Act.put, List.setIfInBounds_toArray, List.set_cons_zero, List.set_cons_succ])
  go_cut [18] (fun v18 wc => ∃ (kq : Nat) (x18_3 : Bool), v18 = .bool x18_3 ∧ Aside0 (taquinlaw01_WireReads.j0 kq a0 l1 t216 x18_3 = some r) ∧ Aside0 (kq ≤ k) ∧ Aside0 (Below w.heap.size w wc))
  case first =>
    have H := HC4.out
    clear HC4
    by_cases c6 : (a0.size : Int) > 400
    · rw [if_pos c6] at H
      have c6b0 : decide (400 < (a0.size : Int)) = true := decide_eq_true c6
      have c6b1 : decide (400 < a0.size) = true := decide_eq_true (by omega)
      clear c6
      (first | rw [c6b0] | (simp only [i64_w, i32_w]; rw [c6b0]) | skip)
      have H' := Aside0.mk H
      clear H
      go_wp2
      go_meet
      case rel => exact ⟨_, (true), (by first | rfl | (simp; done) | (simp [*]; done)), H', ⟨by first | omega | exact Nat.le_refl _⟩, ⟨by repeat (first | (with_reducible first | exact HB.out | apply below_alloc | apply pw_below_drewN | apply below_drew1) | exact HB.out)⟩⟩
    · rw [if_neg c6] at H
      have c6b0 : decide (400 < (a0.size : Int)) = false := decide_eq_false c6
      have c6b1 : decide (400 < a0.size) = false := decide_eq_false (by omega)
      clear c6
      (first | rw [c6b0] | (simp only [i64_w, i32_w]; rw [c6b0]) | skip)
      have H' := Aside0.mk H
      clear H
      go_wp2
      go_meet
      case rel => exact ⟨_, (decide ((l1.length : Int) > 20)), (by first | rfl | (simp; done) | (simp [*]; done)), H', ⟨by first | omega | exact Nat.le_refl _⟩, ⟨by repeat (first | (with_reducible first | exact HB.out | apply below_alloc | apply pw_below_drewN | apply below_drew1) | exact HB.out)⟩⟩
  case rest =>
    clear HC4
    try clear c1
    try clear c2
    try clear p2
    try clear c6
    try clear c6b0
    try clear c6b1
    obtain ⟨kq, x18_3, rfl, HA, HJ3, HB⟩ := hcut
    cases kq with
    | zero => exact absurd HA.out (by simp [taquinlaw01_WireReads.j0])
    | succ kj3 =>
      have H := HA.out
      clear HA
      simp only [taquinlaw01_WireReads.j0] at H
      by_cases c7 : x18_3 = true
      · subst c7
        have H1 : (some t216) = some r := by rw [if_pos rfl] at H; exact H
        clear H
        have H := H1
        clear H1
        obtain rfl := Option.some.inj H
        go_wp2
        go_ret
        exact ⟨by first | rfl | (simp [errW_none, errW_some] <;> rfl) | (simp [*, errW_none, errW_some] <;> rfl), by repeat (first | (with_reducible first | exact HB.out | apply below_alloc | apply pw_below_drewN | apply below_drew1) | exact HB.out)⟩
      · replace c7 := Bool.eq_false_iff.mpr c7
        subst c7
        have H1 : ((wire_Open.f a0).bind fun bt217 => ((taquinref01_Open.f a0).bind fun bt220 => (taquinlaw01_WireReads.l0 kj3 l1 t216 0 bt217.1 bt217.2 bt220.1 bt220.2))) = some r := by rw [if_neg (show ¬ (false = true) by decide)] at H; exact H
        clear H
        have H := H1
        clear H1
        replace H := Option.bind_eq_some_iff.mp H
        obtain ⟨⟨t217, t218⟩, A80, H⟩ := H
        replace H : ((taquinref01_Open.f a0).bind fun bt220 => (taquinlaw01_WireReads.l0 kj3 l1 t216 0 t217 t218 bt220.1 bt220.2)) = some r := H
        have A8 := Aside0.mk A80
        clear A80
        replace H := Option.bind_eq_some_iff.mp H
        obtain ⟨⟨t220, t221⟩, A90, H⟩ := H
        replace H : (taquinlaw01_WireReads.l0 kj3 l1 t216 0 t217 t218 t220 t221) = some r := H
        have A9 := Aside0.mk A90
        clear A90
        have H' := Aside0.mk H
        clear H
        go_wp2_with (first | ((with_reducible refine gate_callee (f := 33) rfl ?_); refine goesL_ (some 21) rfl rfl Tryd.func33 (by kernel_rfl) rfl #[.string a0] rfl (by (try simp only [List.map_toArray, List.map_cons, List.map_nil]); first | done | rfl | (simp only [List.length_drop, List.length_take]; rfl)) ?_; (with_reducible refine (wire_Open.calls a0 t217 t218 _ _ (Below.refl _ _) A8.out).mono ?_); rintro e w10 ⟨g219, rfl, hi, hb, hb2⟩; refine ⟨_, rfl, ?_⟩; have n0_ := Aside0.mk (below_step (by repeat (first | (with_reducible first | exact HB.out | apply below_alloc | apply pw_below_drewN | apply below_drew1) | exact HB.out)) hb); have n1_ := Aside0.mk ((show IsS189 w _ g219 t217 t218 from ⟨hi.1, Nat.le_trans (below_size (by repeat (first | (with_reducible first | exact HB.out | apply below_alloc | apply pw_below_drewN | apply below_drew1) | exact HB.out))) hi.2⟩)); clear HB; have HB := n0_; have HI219 := n1_; clear n0_ n1_; (try clear hb); (try clear hb2); (try clear hk); (try clear hi)) | ((with_reducible refine gate_callee (f := 44) rfl ?_); refine goesL_ (some 23) rfl rfl Tryd.func44 (by kernel_rfl) rfl #[.string a0] rfl (by (try simp only [List.map_toArray, List.map_cons, List.map_nil]); first | done | rfl | (simp only [List.length_drop, List.length_take]; rfl)) ?_; (with_reducible refine (taquinref01_Open.calls a0 t220 t221 _ _ (Below.refl _ _) A9.out).mono ?_); rintro e w11 ⟨g222, rfl, hi, hb, hb2⟩; refine ⟨_, rfl, ?_⟩; have n0_ := Aside0.mk (IsS189.below (by repeat (first | (with_reducible first | exact HI219.out | apply IsS189.alloc | apply IsS189.drewN | apply IsS189.drew | apply IsS189.set_0 | apply IsS189.set_1) | exact HI219.out)) hb2); have n1_ := Aside0.mk (below_step (by repeat (first | (with_reducible first | exact HB.out | apply below_alloc | apply pw_below_drewN | apply below_drew1 | refine below_set ?_ (IsS189.ge HI219.out)) | exact HB.out)) hb); have n2_ := Aside0.mk ((show IsS195 w _ g222 t220 t221 from ⟨hi.1, Nat.le_trans (below_size (by repeat (first | (with_reducible first | exact HB.out | apply below_alloc | apply pw_below_drewN | apply below_drew1 | refine below_set ?_ (IsS189.ge HI219.out)) | exact HB.out))) hi.2⟩)); have n3_ := Aside0.mk ((show g222 ≠ g219 from Nat.ne_of_gt (Nat.lt_of_lt_of_le (IsS189.lt (show IsS189 w _ g219 t217 t218 from by repeat (first | (with_reducible first | exact HI219.out | apply IsS189.alloc | apply IsS189.drewN | apply IsS189.drew | apply IsS189.set_0 | apply IsS189.set_1) | exact HI219.out))) hi.2))); have n4_ := Aside0.mk ((show g219 ≠ g222 from Nat.ne_of_lt (Nat.lt_of_lt_of_le (IsS189.lt (show IsS189 w _ g219 t217 t218 from by repeat (first | (with_reducible first | exact HI219.out | apply IsS189.alloc | apply IsS189.drewN | apply IsS189.drew | apply IsS189.set_0 | apply IsS189.set_1) | exact HI219.out))) hi.2))); clear HI219; clear HB; have HI219 := n0_; have HB := n1_; have HI222 := n2_; have NB222_219 := n3_; have NB219_222 := n4_; clear n0_ n1_ n2_ n3_ n4_; (try clear hb); (try clear hb2); (try clear hk); (try clear hi)))
        go_loopg [8] kj3 (fun kq v8 w' => ∃ (x8_2 : Int) (x220000_2 : ByteArray) (x220001_2 : Bool) (x223000_2 : ByteArray) (x223001_2 : Bool), v8 = .int .i64 x8_2 ∧ Aside0 (taquinlaw01_WireReads.l0 kq l1 t216 x8_2 x220000_2 x220001_2 x223000_2 x223001_2 = some r) ∧ Aside0 (kq ≤ kj3) ∧ Aside0 (IsS189 w w' g219 x220000_2 x220001_2) ∧ Aside0 (IsS195 w w' g222 x223000_2 x223001_2) ∧ Aside0 (Below w.heap.size w w'))
        case atStart => exact ⟨(0), (t217), (t218), (t220), (t221), (by first | rfl | (simp; done) | (simp [*]; done)), H', ⟨Nat.le_refl _⟩, ⟨by repeat (first | (with_reducible first | exact HI219.out | apply IsS189.alloc | apply IsS189.drewN | apply IsS189.drew | apply IsS189.set_0 | apply IsS189.set_1) | exact HI219.out)⟩, ⟨by repeat (first | (with_reducible first | exact HI222.out | apply IsS195.alloc | apply IsS195.drewN | apply IsS195.drew | apply IsS195.set_0 | apply IsS195.set_1) | exact HI222.out)⟩, ⟨by repeat (first | (with_reducible first | exact HB.out | apply below_alloc | apply pw_below_drewN | apply below_drew1 | refine below_set ?_ (IsS189.ge HI219.out) | refine below_set ?_ (IsS195.ge HI222.out)) | exact HB.out)⟩⟩
        case round =>
          clear H'
          try clear c1
          try clear c2
          try clear p2
          try clear c3
          try clear c4
          try clear c6
          try clear c6b0
          try clear c6b1
          try clear c7
          try clear p2
          obtain ⟨x8_2, x220000_2, x220001_2, x223000_2, x223001_2, rfl, HA, HK2, HI219, HI222, HB⟩ := hrel
          cases gk with
          | zero => exact absurd HA.out (by simp [taquinlaw01_WireReads.l0])
          | succ k2 =>
            have H := HA.out
            clear HA
            simp only [taquinlaw01_WireReads.l0] at H
            by_cases c12 : x8_2 < (l1.length : Int)
            · rw [if_pos c12] at H
              have c12b0 : decide (x8_2 < (l1.length : Int)) = true := decide_eq_true c12
              clear c12
              by_cases c13 : 0 ≤ x8_2
              · rw [if_pos c13] at H
                have c13b0 : decide (0 ≤ x8_2) = true := decide_eq_true c13
                clear c13
                replace H := Option.bind_eq_some_iff.mp H
                obtain ⟨t224, A140, H⟩ := H
                replace H : (if t224 = 0 then ((wire_Reader_Num.f x220000_2 x220001_2).bind fun bt225 => ((taquinref01_Reader_Num.f k2 x223000_2 x223001_2).bind fun bt228 => (taquinlaw01_WireReads.j2 k2 l1 t216 x8_2 (bt225.1 == bt228.1) bt225.2.1 bt225.2.2 bt228.2.1 bt228.2.2))) else (if t224 = 1 then ((wire_Reader_Int.f x220000_2 x220001_2).bind fun bt231 => ((taquinref01_Reader_Int.f k2 x223000_2 x223001_2).bind fun bt234 => (taquinlaw01_WireReads.j2 k2 l1 t216 x8_2 (bt231.1 == bt234.1) bt231.2.1 bt231.2.2 bt234.2.1 bt234.2.2))) else (if t224 = 2 then ((wire_Reader_Text.f x220000_2 x220001_2).bind fun bt237 => ((taquinref01_Reader_Text.f k2 x223000_2 x223001_2).bind fun bt240 => (taquinlaw01_WireReads.j2 k2 l1 t216 x8_2 (bt237.1.toList == bt240.1.toList) bt237.2.1 bt237.2.2 bt240.2.1 bt240.2.2))) else (if t224 = 3 then ((wire_Reader_Nums.f x220000_2 x220001_2).bind fun bt243 => ((taquinref01_Reader_Nums.f k2 x223000_2 x223001_2).bind fun bt248 => ((taquinref01_SameNums.f k2 bt243.1 bt248.1).bind fun t253 => (taquinlaw01_WireReads.j2 k2 l1 t216 x8_2 t253 bt243.2.1 bt243.2.2 bt248.2.1 bt248.2.2)))) else ((wire_Reader_Texts.f x220000_2 x220001_2).bind fun bt254 => ((taquinref01_Reader_Texts.f k2 x223000_2 x223001_2).bind fun bt259 => ((taquinref01_SameTexts.f k2 bt254.1 bt259.1).bind fun t264 => (taquinlaw01_WireReads.j2 k2 l1 t216 x8_2 t264 bt254.2.1 bt254.2.2 bt259.2.1 bt259.2.2)))))))) = some r := H
                have A14 := Aside0.mk A140
                clear A140
                have HC15 := Aside0.mk H
                clear H
                have p223 : 0 ≤ (x8_2 : Int) := of_decide_eq_true (by first | (with_reducible assumption) | assumption)
                have q223 : x8_2 < (l1.length : Int) := of_decide_eq_true (by first | (with_reducible assumption) | assumption)
                obtain ⟨ad223, e223, hx223_0⟩ := Kd.at_int HR1.out x8_2 p223 q223
                cases e223
                replace hx223_0 := (HB.out.cell (World.block_lt_of_cell? w _ hx223_0)).trans hx223_0
                replace p223 := eq_true p223
                replace q223 := eq_true q223
                go_upto_block 2 with (first | ((with_reducible refine gate_callee (f := 34) rfl ?_); refine goesL_ (some 37) rfl rfl Tryd.func34 (by kernel_rfl) rfl #[.agg #[.int .i64 (rd l1 x8_2), .int .i64 0, .string (⟨#[]⟩ : ByteArray), .slice none 0 0, .slice none 0 0]] rfl (by (try simp only [List.map_toArray, List.map_cons, List.map_nil]); first | done | rfl | (simp only [List.length_drop, List.length_take]; rfl)) ?_; (refine (taquinlaw01_kind.calls (rd l1 x8_2) 0 (⟨#[]⟩ : ByteArray) _ _ ([] : List Int) _ _ ([] : List ByteArray) t224 _ ?side1 ?side2 ?side3 ?side4 A14.out).mono ?_); (case side1 => exact Kd.C_nil _ _); (case side2 => exact Nat.le_refl _); (case side3 => exact Kd.C_nil _ _); (case side4 => exact Nat.le_refl _); rintro e w16 ⟨rfl, hb⟩; refine ⟨_, rfl, ?_⟩; have n0_ := Aside0.mk (IsS189.below (by repeat (first | (with_reducible first | exact HI219.out | apply IsS189.alloc | apply IsS189.drewN | apply IsS189.drew | apply IsS189.set_0 | apply IsS189.set_1) | exact HI219.out)) hb); have n1_ := Aside0.mk (IsS195.below (by repeat (first | (with_reducible first | exact HI222.out | apply IsS195.alloc | apply IsS195.drewN | apply IsS195.drew | apply IsS195.set_0 | apply IsS195.set_1) | exact HI222.out)) hb); have n2_ := Aside0.mk (below_step (by repeat (first | (with_reducible first | exact HB.out | apply below_alloc | apply pw_below_drewN | apply below_drew1 | refine below_set ?_ (IsS189.ge HI219.out) | refine below_set ?_ (IsS195.ge HI222.out)) | exact HB.out)) hb); clear HI219; clear HI222; clear HB; have HI219 := n0_; have HI222 := n1_; have HB := n2_; clear n0_ n1_ n2_; (try clear hb); (try clear hb2); (try clear hk); (try clear hi)))
                (try simp only [Act.put, List.setIfInBounds_toArray, List.set_cons_zero, List.set_cons_succ])
                go_cut [9] (fun v9 wc => ∃ (kq : Nat) (x9_14 : Bool) (x220000_14 : ByteArray) (x220001_14 : Bool) (x223000_14 : ByteArray) (x223001_14 : Bool), v9 = .bool x9_14 ∧ Aside0 (taquinlaw01_WireReads.j2 kq l1 t216 x8_2 x9_14 x220000_14 x220001_14 x223000_14 x223001_14 = some r) ∧ Aside0 (kq ≤ k2) ∧ Aside0 (IsS189 w wc g219 x220000_14 x220001_14) ∧ Aside0 (IsS195 w wc g222 x223000_14 x223001_14) ∧ Aside0 (Below w.heap.size w wc))
                case first =>
                  have H := HC15.out
                  clear HC15
                  by_cases c17 : t224 = 0
                  · rw [if_pos c17] at H
                    have c17b0 : (t224 == 0) = true := beq_iff_eq.mpr c17
                    have c17b1 : (t224 != 0) = false := bne_eq_false_iff_eq.mpr c17
                    clear c17
                    (first | rw [c17b0] | (simp only [i64_w, i32_w]; rw [c17b0]) | skip)
                    replace H := Option.bind_eq_some_iff.mp H
                    obtain ⟨⟨t225, t226, t227⟩, A180, H⟩ := H
                    replace H : ((taquinref01_Reader_Num.f k2 x223000_2 x223001_2).bind fun bt228 => (taquinlaw01_WireReads.j2 k2 l1 t216 x8_2 (t225 == bt228.1) t226 t227 bt228.2.1 bt228.2.2)) = some r := H
                    have A18 := Aside0.mk A180
                    clear A180
                    replace H := Option.bind_eq_some_iff.mp H
                    obtain ⟨⟨t228, t229, t230⟩, A190, H⟩ := H
                    replace H : (taquinlaw01_WireReads.j2 k2 l1 t216 x8_2 (t225 == t228) t226 t227 t229 t230) = some r := H
                    have A19 := Aside0.mk A190
                    clear A190
                    have H' := Aside0.mk H
                    clear H
                    go_wp2_with (first | ((with_reducible refine gate_callee (f := 35) rfl ?_); refine goesL_ (some 46) rfl rfl Tryd.func35 (by kernel_rfl) rfl #[.pointer (some ⟨g219, 0, none⟩)] rfl (by (try simp only [List.map_toArray, List.map_cons, List.map_nil]); first | done | rfl | (simp only [List.length_drop, List.length_take]; rfl)) ?_; (with_reducible refine (wire_Reader_Num.calls g219 x220000_2 x220001_2 t225 t226 t227 w _ ?side1 ?side2 A18.out HT.out).mono ?_); (case side1 => repeat (first | (with_reducible first | exact HI219.out | apply IsS189.alloc | apply IsS189.drewN | apply IsS189.drew | apply IsS189.set_0 | apply IsS189.set_1) | exact HI219.out)); (case side2 => repeat (first | (with_reducible first | exact HB.out | apply below_alloc | apply pw_below_drewN | apply below_drew1 | refine below_set ?_ (IsS189.ge HI219.out) | refine below_set ?_ (IsS195.ge HI222.out)) | exact HB.out)); rintro e w20 ⟨rfl, hi, hb, hk⟩; refine ⟨_, rfl, ?_⟩; have n0_ := Aside0.mk ((show IsS195 w _ g222 x223000_2 x223001_2 from ⟨KeepBut.blk hk (show IsS195 w _ g222 x223000_2 x223001_2 from by repeat (first | (with_reducible first | exact HI222.out | apply IsS195.alloc | apply IsS195.drewN | apply IsS195.drew | apply IsS195.set_0 | apply IsS195.set_1) | exact HI222.out)).1 NB222_219.out (by simp), (show IsS195 w _ g222 x223000_2 x223001_2 from by repeat (first | (with_reducible first | exact HI222.out | apply IsS195.alloc | apply IsS195.drewN | apply IsS195.drew | apply IsS195.set_0 | apply IsS195.set_1) | exact HI222.out)).2⟩)); have n1_ := Aside0.mk (hb); have n2_ := Aside0.mk (hi); clear HI222; clear HB; clear HI219; have HI222 := n0_; have HB := n1_; have HI219 := n2_; clear n0_ n1_ n2_; (try clear hb); (try clear hb2); (try clear hk); (try clear hi)) | ((with_reducible refine gate_callee (f := 45) rfl ?_); refine goesL_ (some 48) rfl rfl Tryd.func45 (by kernel_rfl) rfl #[.pointer (some ⟨g222, 0, none⟩)] rfl (by (try simp only [List.map_toArray, List.map_cons, List.map_nil]); first | done | rfl | (simp only [List.length_drop, List.length_take]; rfl)) ?_; (with_reducible refine (taquinref01_Reader_Num.calls k2 g222 x223000_2 x223001_2 t228 t229 t230 w _ ?side1 ?side2 A19.out).mono ?_); (case side1 => repeat (first | (with_reducible first | exact HI222.out | apply IsS195.alloc | apply IsS195.drewN | apply IsS195.drew | apply IsS195.set_0 | apply IsS195.set_1) | exact HI222.out)); (case side2 => repeat (first | (with_reducible first | exact HB.out | apply below_alloc | apply pw_below_drewN | apply below_drew1 | refine below_set ?_ (IsS189.ge HI219.out) | refine below_set ?_ (IsS195.ge HI222.out)) | exact HB.out)); rintro e w21 ⟨rfl, hi, hb, hk⟩; refine ⟨_, rfl, ?_⟩; have n0_ := Aside0.mk ((show IsS189 w _ g219 t226 t227 from ⟨KeepBut.blk hk (show IsS189 w _ g219 t226 t227 from by repeat (first | (with_reducible first | exact HI219.out | apply IsS189.alloc | apply IsS189.drewN | apply IsS189.drew | apply IsS189.set_0 | apply IsS189.set_1) | exact HI219.out)).1 NB219_222.out (by simp), (show IsS189 w _ g219 t226 t227 from by repeat (first | (with_reducible first | exact HI219.out | apply IsS189.alloc | apply IsS189.drewN | apply IsS189.drew | apply IsS189.set_0 | apply IsS189.set_1) | exact HI219.out)).2⟩)); have n1_ := Aside0.mk (hb); have n2_ := Aside0.mk (hi); clear HI219; clear HB; clear HI222; have HI219 := n0_; have HB := n1_; have HI222 := n2_; clear n0_ n1_ n2_; (try clear hb); (try clear hb2); (try clear hk); (try clear hi)))
                    go_meet
                    case rel => exact ⟨_, ((t225 == t228)), (t226), (t227), (t229), (t230), (by first | rfl | (simp; done) | (simp [*]; done)), H', ⟨by have := HJ3.out; have := HK2.out; first | omega | exact Nat.le_refl _⟩, ⟨by repeat (first | (with_reducible first | exact HI219.out | apply IsS189.alloc | apply IsS189.drewN | apply IsS189.drew | apply IsS189.set_0 | apply IsS189.set_1) | exact HI219.out)⟩, ⟨by repeat (first | (with_reducible first | exact HI222.out | apply IsS195.alloc | apply IsS195.drewN | apply IsS195.drew | apply IsS195.set_0 | apply IsS195.set_1) | exact HI222.out)⟩, ⟨by repeat (first | (with_reducible first | exact HB.out | apply below_alloc | apply pw_below_drewN | apply below_drew1 | refine below_set ?_ (IsS189.ge HI219.out) | refine below_set ?_ (IsS195.ge HI222.out)) | exact HB.out)⟩⟩
                  · rw [if_neg c17] at H
                    have c17b0 : (t224 == 0) = false := beq_eq_false_iff_ne.mpr c17
                    have c17b1 : (t224 != 0) = true := bne_iff_ne.mpr c17
                    (first | rw [c17b0] | (simp only [i64_w, i32_w]; rw [c17b0]) | skip)
                    by_cases c22 : t224 = 1
                    · rw [if_pos c22] at H
                      have c22b0 : (t224 == 1) = true := beq_iff_eq.mpr c22
                      have c22b1 : (t224 != 1) = false := bne_eq_false_iff_eq.mpr c22
                      clear c22
                      replace H := Option.bind_eq_some_iff.mp H
                      obtain ⟨⟨t231, t232, t233⟩, A230, H⟩ := H
                      replace H : ((taquinref01_Reader_Int.f k2 x223000_2 x223001_2).bind fun bt234 => (taquinlaw01_WireReads.j2 k2 l1 t216 x8_2 (t231 == bt234.1) t232 t233 bt234.2.1 bt234.2.2)) = some r := H
                      have A23 := Aside0.mk A230
                      clear A230
                      replace H := Option.bind_eq_some_iff.mp H
                      obtain ⟨⟨t234, t235, t236⟩, A240, H⟩ := H
                      replace H : (taquinlaw01_WireReads.j2 k2 l1 t216 x8_2 (t231 == t234) t232 t233 t235 t236) = some r := H
                      have A24 := Aside0.mk A240
                      clear A240
                      have H' := Aside0.mk H
                      clear H
                      go_wp2_with (first | ((with_reducible refine gate_callee (f := 36) rfl ?_); refine goesL_ (some 53) rfl rfl Tryd.func36 (by kernel_rfl) rfl #[.pointer (some ⟨g219, 0, none⟩)] rfl (by (try simp only [List.map_toArray, List.map_cons, List.map_nil]); first | done | rfl | (simp only [List.length_drop, List.length_take]; rfl)) ?_; (with_reducible refine (wire_Reader_Int.calls g219 x220000_2 x220001_2 t231 t232 t233 w _ ?side1 ?side2 A23.out HT.out).mono ?_); (case side1 => repeat (first | (with_reducible first | exact HI219.out | apply IsS189.alloc | apply IsS189.drewN | apply IsS189.drew | apply IsS189.set_0 | apply IsS189.set_1) | exact HI219.out)); (case side2 => repeat (first | (with_reducible first | exact HB.out | apply below_alloc | apply pw_below_drewN | apply below_drew1 | refine below_set ?_ (IsS189.ge HI219.out) | refine below_set ?_ (IsS195.ge HI222.out)) | exact HB.out)); rintro e w25 ⟨rfl, hi, hb, hk⟩; refine ⟨_, rfl, ?_⟩; have n0_ := Aside0.mk ((show IsS195 w _ g222 x223000_2 x223001_2 from ⟨KeepBut.blk hk (show IsS195 w _ g222 x223000_2 x223001_2 from by repeat (first | (with_reducible first | exact HI222.out | apply IsS195.alloc | apply IsS195.drewN | apply IsS195.drew | apply IsS195.set_0 | apply IsS195.set_1) | exact HI222.out)).1 NB222_219.out (by simp), (show IsS195 w _ g222 x223000_2 x223001_2 from by repeat (first | (with_reducible first | exact HI222.out | apply IsS195.alloc | apply IsS195.drewN | apply IsS195.drew | apply IsS195.set_0 | apply IsS195.set_1) | exact HI222.out)).2⟩)); have n1_ := Aside0.mk (hb); have n2_ := Aside0.mk (hi); clear HI222; clear HB; clear HI219; have HI222 := n0_; have HB := n1_; have HI219 := n2_; clear n0_ n1_ n2_; (try clear hb); (try clear hb2); (try clear hk); (try clear hi)) | ((with_reducible refine gate_callee (f := 46) rfl ?_); refine goesL_ (some 55) rfl rfl Tryd.func46 (by kernel_rfl) rfl #[.pointer (some ⟨g222, 0, none⟩)] rfl (by (try simp only [List.map_toArray, List.map_cons, List.map_nil]); first | done | rfl | (simp only [List.length_drop, List.length_take]; rfl)) ?_; (with_reducible refine (taquinref01_Reader_Int.calls k2 g222 x223000_2 x223001_2 t234 t235 t236 w _ ?side1 ?side2 A24.out).mono ?_); (case side1 => repeat (first | (with_reducible first | exact HI222.out | apply IsS195.alloc | apply IsS195.drewN | apply IsS195.drew | apply IsS195.set_0 | apply IsS195.set_1) | exact HI222.out)); (case side2 => repeat (first | (with_reducible first | exact HB.out | apply below_alloc | apply pw_below_drewN | apply below_drew1 | refine below_set ?_ (IsS189.ge HI219.out) | refine below_set ?_ (IsS195.ge HI222.out)) | exact HB.out)); rintro e w26 ⟨rfl, hi, hb, hk⟩; refine ⟨_, rfl, ?_⟩; have n0_ := Aside0.mk ((show IsS189 w _ g219 t232 t233 from ⟨KeepBut.blk hk (show IsS189 w _ g219 t232 t233 from by repeat (first | (with_reducible first | exact HI219.out | apply IsS189.alloc | apply IsS189.drewN | apply IsS189.drew | apply IsS189.set_0 | apply IsS189.set_1) | exact HI219.out)).1 NB219_222.out (by simp), (show IsS189 w _ g219 t232 t233 from by repeat (first | (with_reducible first | exact HI219.out | apply IsS189.alloc | apply IsS189.drewN | apply IsS189.drew | apply IsS189.set_0 | apply IsS189.set_1) | exact HI219.out)).2⟩)); have n1_ := Aside0.mk (hb); have n2_ := Aside0.mk (hi); clear HI219; clear HB; clear HI222; have HI219 := n0_; have HB := n1_; have HI222 := n2_; clear n0_ n1_ n2_; (try clear hb); (try clear hb2); (try clear hk); (try clear hi)))
                      go_meet
                      case rel => exact ⟨_, ((t231 == t234)), (t232), (t233), (t235), (t236), (by first | rfl | (simp; done) | (simp [*]; done)), H', ⟨by have := HJ3.out; have := HK2.out; first | omega | exact Nat.le_refl _⟩, ⟨by repeat (first | (with_reducible first | exact HI219.out | apply IsS189.alloc | apply IsS189.drewN | apply IsS189.drew | apply IsS189.set_0 | apply IsS189.set_1) | exact HI219.out)⟩, ⟨by repeat (first | (with_reducible first | exact HI222.out | apply IsS195.alloc | apply IsS195.drewN | apply IsS195.drew | apply IsS195.set_0 | apply IsS195.set_1) | exact HI222.out)⟩, ⟨by repeat (first | (with_reducible first | exact HB.out | apply below_alloc | apply pw_below_drewN | apply below_drew1 | refine below_set ?_ (IsS189.ge HI219.out) | refine below_set ?_ (IsS195.ge HI222.out)) | exact HB.out)⟩⟩
                    · rw [if_neg c22] at H
                      have c22b0 : (t224 == 1) = false := beq_eq_false_iff_ne.mpr c22
                      have c22b1 : (t224 != 1) = true := bne_iff_ne.mpr c22
                      by_cases c27 : t224 = 2
                      · rw [if_pos c27] at H
                        have c27b0 : (t224 == 2) = true := beq_iff_eq.mpr c27
                        have c27b1 : (t224 != 2) = false := bne_eq_false_iff_eq.mpr c27
                        clear c27
                        replace H := Option.bind_eq_some_iff.mp H
                        obtain ⟨⟨t237, t238, t239⟩, A280, H⟩ := H
                        replace H : ((taquinref01_Reader_Text.f k2 x223000_2 x223001_2).bind fun bt240 => (taquinlaw01_WireReads.j2 k2 l1 t216 x8_2 (t237.toList == bt240.1.toList) t238 t239 bt240.2.1 bt240.2.2)) = some r := H
                        have A28 := Aside0.mk A280
                        clear A280
                        replace H := Option.bind_eq_some_iff.mp H
                        obtain ⟨⟨t240, t241, t242⟩, A290, H⟩ := H
                        replace H : (taquinlaw01_WireReads.j2 k2 l1 t216 x8_2 (t237.toList == t240.toList) t238 t239 t241 t242) = some r := H
                        have A29 := Aside0.mk A290
                        clear A290
                        have H' := Aside0.mk H
                        clear H
                        go_wp2_with (first | ((with_reducible refine gate_callee (f := 37) rfl ?_); refine goesL_ (some 60) rfl rfl Tryd.func37 (by kernel_rfl) rfl #[.pointer (some ⟨g219, 0, none⟩)] rfl (by (try simp only [List.map_toArray, List.map_cons, List.map_nil]); first | done | rfl | (simp only [List.length_drop, List.length_take]; rfl)) ?_; (with_reducible refine (wire_Reader_Text.calls g219 x220000_2 x220001_2 t237 t238 t239 w _ ?side1 ?side2 A28.out HT.out).mono ?_); (case side1 => repeat (first | (with_reducible first | exact HI219.out | apply IsS189.alloc | apply IsS189.drewN | apply IsS189.drew | apply IsS189.set_0 | apply IsS189.set_1) | exact HI219.out)); (case side2 => repeat (first | (with_reducible first | exact HB.out | apply below_alloc | apply pw_below_drewN | apply below_drew1 | refine below_set ?_ (IsS189.ge HI219.out) | refine below_set ?_ (IsS195.ge HI222.out)) | exact HB.out)); rintro e w30 ⟨rfl, hi, hb, hk⟩; refine ⟨_, rfl, ?_⟩; have n0_ := Aside0.mk ((show IsS195 w _ g222 x223000_2 x223001_2 from ⟨KeepBut.blk hk (show IsS195 w _ g222 x223000_2 x223001_2 from by repeat (first | (with_reducible first | exact HI222.out | apply IsS195.alloc | apply IsS195.drewN | apply IsS195.drew | apply IsS195.set_0 | apply IsS195.set_1) | exact HI222.out)).1 NB222_219.out (by simp), (show IsS195 w _ g222 x223000_2 x223001_2 from by repeat (first | (with_reducible first | exact HI222.out | apply IsS195.alloc | apply IsS195.drewN | apply IsS195.drew | apply IsS195.set_0 | apply IsS195.set_1) | exact HI222.out)).2⟩)); have n1_ := Aside0.mk (hb); have n2_ := Aside0.mk (hi); clear HI222; clear HB; clear HI219; have HI222 := n0_; have HB := n1_; have HI219 := n2_; clear n0_ n1_ n2_; (try clear hb); (try clear hb2); (try clear hk); (try clear hi)) | ((with_reducible refine gate_callee (f := 47) rfl ?_); refine goesL_ (some 62) rfl rfl Tryd.func47 (by kernel_rfl) rfl #[.pointer (some ⟨g222, 0, none⟩)] rfl (by (try simp only [List.map_toArray, List.map_cons, List.map_nil]); first | done | rfl | (simp only [List.length_drop, List.length_take]; rfl)) ?_; (with_reducible refine (taquinref01_Reader_Text.calls k2 g222 x223000_2 x223001_2 t240 t241 t242 w _ ?side1 ?side2 A29.out).mono ?_); (case side1 => repeat (first | (with_reducible first | exact HI222.out | apply IsS195.alloc | apply IsS195.drewN | apply IsS195.drew | apply IsS195.set_0 | apply IsS195.set_1) | exact HI222.out)); (case side2 => repeat (first | (with_reducible first | exact HB.out | apply below_alloc | apply pw_below_drewN | apply below_drew1 | refine below_set ?_ (IsS189.ge HI219.out) | refine below_set ?_ (IsS195.ge HI222.out)) | exact HB.out)); rintro e w31 ⟨rfl, hi, hb, hk⟩; refine ⟨_, rfl, ?_⟩; have n0_ := Aside0.mk ((show IsS189 w _ g219 t238 t239 from ⟨KeepBut.blk hk (show IsS189 w _ g219 t238 t239 from by repeat (first | (with_reducible first | exact HI219.out | apply IsS189.alloc | apply IsS189.drewN | apply IsS189.drew | apply IsS189.set_0 | apply IsS189.set_1) | exact HI219.out)).1 NB219_222.out (by simp), (show IsS189 w _ g219 t238 t239 from by repeat (first | (with_reducible first | exact HI219.out | apply IsS189.alloc | apply IsS189.drewN | apply IsS189.drew | apply IsS189.set_0 | apply IsS189.set_1) | exact HI219.out)).2⟩)); have n1_ := Aside0.mk (hb); have n2_ := Aside0.mk (hi); clear HI219; clear HB; clear HI222; have HI219 := n0_; have HB := n1_; have HI222 := n2_; clear n0_ n1_ n2_; (try clear hb); (try clear hb2); (try clear hk); (try clear hi)))
                        go_meet
                        case rel => exact ⟨_, ((t237.toList == t240.toList)), (t238), (t239), (t241), (t242), (by first | rfl | (simp; done) | (simp [*]; done)), H', ⟨by have := HJ3.out; have := HK2.out; first | omega | exact Nat.le_refl _⟩, ⟨by repeat (first | (with_reducible first | exact HI219.out | apply IsS189.alloc | apply IsS189.drewN | apply IsS189.drew | apply IsS189.set_0 | apply IsS189.set_1) | exact HI219.out)⟩, ⟨by repeat (first | (with_reducible first | exact HI222.out | apply IsS195.alloc | apply IsS195.drewN | apply IsS195.drew | apply IsS195.set_0 | apply IsS195.set_1) | exact HI222.out)⟩, ⟨by repeat (first | (with_reducible first | exact HB.out | apply below_alloc | apply pw_below_drewN | apply below_drew1 | refine below_set ?_ (IsS189.ge HI219.out) | refine below_set ?_ (IsS195.ge HI222.out)) | exact HB.out)⟩⟩
                      · rw [if_neg c27] at H
                        have c27b0 : (t224 == 2) = false := beq_eq_false_iff_ne.mpr c27
                        have c27b1 : (t224 != 2) = true := bne_iff_ne.mpr c27
                        by_cases c32 : t224 = 3
                        · rw [if_pos c32] at H
                          have c32b0 : (t224 == 3) = true := beq_iff_eq.mpr c32
                          have c32b1 : (t224 != 3) = false := bne_eq_false_iff_eq.mpr c32
                          clear c32
                          replace H := Option.bind_eq_some_iff.mp H
                          obtain ⟨⟨t243, t246, t247⟩, A330, H⟩ := H
                          replace H : ((taquinref01_Reader_Nums.f k2 x223000_2 x223001_2).bind fun bt248 => ((taquinref01_SameNums.f k2 t243 bt248.1).bind fun t253 => (taquinlaw01_WireReads.j2 k2 l1 t216 x8_2 t253 t246 t247 bt248.2.1 bt248.2.2))) = some r := H
                          have A33 := Aside0.mk A330
                          clear A330
                          replace H := Option.bind_eq_some_iff.mp H
                          obtain ⟨⟨t248, t251, t252⟩, A340, H⟩ := H
                          replace H : ((taquinref01_SameNums.f k2 t243 t248).bind fun t253 => (taquinlaw01_WireReads.j2 k2 l1 t216 x8_2 t253 t246 t247 t251 t252)) = some r := H
                          have A34 := Aside0.mk A340
                          clear A340
                          replace H := Option.bind_eq_some_iff.mp H
                          obtain ⟨t253, A350, H⟩ := H
                          replace H : (taquinlaw01_WireReads.j2 k2 l1 t216 x8_2 t253 t246 t247 t251 t252) = some r := H
                          have A35 := Aside0.mk A350
                          clear A350
                          have H' := Aside0.mk H
                          clear H
                          go_wp2_with (first | ((with_reducible refine gate_callee (f := 38) rfl ?_); refine goesL_ (some 67) rfl rfl Tryd.func38 (by kernel_rfl) rfl #[.pointer (some ⟨g219, 0, none⟩)] rfl (by (try simp only [List.map_toArray, List.map_cons, List.map_nil]); first | done | rfl | (simp only [List.length_drop, List.length_take]; rfl)) ?_; (with_reducible refine (wire_Reader_Nums.calls g219 x220000_2 x220001_2 t243 t246 t247 w _ ?side1 ?side2 A33.out HT.out).mono ?_); (case side1 => repeat (first | (with_reducible first | exact HI219.out | apply IsS189.alloc | apply IsS189.drewN | apply IsS189.drew | apply IsS189.set_0 | apply IsS189.set_1) | exact HI219.out)); (case side2 => repeat (first | (with_reducible first | exact HB.out | apply below_alloc | apply pw_below_drewN | apply below_drew1 | refine below_set ?_ (IsS189.ge HI219.out) | refine below_set ?_ (IsS195.ge HI222.out)) | exact HB.out)); rintro e w36 ⟨v244, rfl, ho0, hi, hb, hk⟩; refine ⟨_, rfl, ?_⟩; have n0_ := Aside0.mk ((show IsS195 w _ g222 x223000_2 x223001_2 from ⟨KeepBut.blk hk (show IsS195 w _ g222 x223000_2 x223001_2 from by repeat (first | (with_reducible first | exact HI222.out | apply IsS195.alloc | apply IsS195.drewN | apply IsS195.drew | apply IsS195.set_0 | apply IsS195.set_1) | exact HI222.out)).1 NB222_219.out (by simp), (show IsS195 w _ g222 x223000_2 x223001_2 from by repeat (first | (with_reducible first | exact HI222.out | apply IsS195.alloc | apply IsS195.drewN | apply IsS195.drew | apply IsS195.set_0 | apply IsS195.set_1) | exact HI222.out)).2⟩)); have n1_ := Aside0.mk (Kd.R_lower ho0 (below_size (by repeat (first | (with_reducible first | exact HB.out | apply below_alloc | apply pw_below_drewN | apply below_drew1 | refine below_set ?_ (IsS189.ge HI219.out) | refine below_set ?_ (IsS195.ge HI222.out)) | exact HB.out)))); have n2_ := Aside0.mk (hb); have n3_ := Aside0.mk (hi); clear HI222; clear HB; clear HI219; have HI222 := n0_; have HO245 := n1_; have HB := n2_; have HI219 := n3_; clear n0_ n1_ n2_ n3_; (try clear hb); (try clear hb2); (try clear hk); (try clear hi); (try clear ho0)) | ((with_reducible refine gate_callee (f := 49) rfl ?_); refine goesL_ (some 69) rfl rfl Tryd.func49 (by kernel_rfl) rfl #[.pointer (some ⟨g222, 0, none⟩)] rfl (by (try simp only [List.map_toArray, List.map_cons, List.map_nil]); first | done | rfl | (simp only [List.length_drop, List.length_take]; rfl)) ?_; (with_reducible refine (taquinref01_Reader_Nums.calls k2 g222 x223000_2 x223001_2 t248 t251 t252 w _ ?side1 ?side2 A34.out).mono ?_); (case side1 => repeat (first | (with_reducible first | exact HI222.out | apply IsS195.alloc | apply IsS195.drewN | apply IsS195.drew | apply IsS195.set_0 | apply IsS195.set_1) | exact HI222.out)); (case side2 => repeat (first | (with_reducible first | exact HB.out | apply below_alloc | apply pw_below_drewN | apply below_drew1 | refine below_set ?_ (IsS189.ge HI219.out) | refine below_set ?_ (IsS195.ge HI222.out)) | exact HB.out)); rintro e w37 ⟨v249, rfl, ho0, hi, hb, hk⟩; refine ⟨_, rfl, ?_⟩; have n0_ := Aside0.mk ((show IsS189 w _ g219 t246 t247 from ⟨KeepBut.blk hk (show IsS189 w _ g219 t246 t247 from by repeat (first | (with_reducible first | exact HI219.out | apply IsS189.alloc | apply IsS189.drewN | apply IsS189.drew | apply IsS189.set_0 | apply IsS189.set_1) | exact HI219.out)).1 NB219_222.out (by simp), (show IsS189 w _ g219 t246 t247 from by repeat (first | (with_reducible first | exact HI219.out | apply IsS189.alloc | apply IsS189.drewN | apply IsS189.drew | apply IsS189.set_0 | apply IsS189.set_1) | exact HI219.out)).2⟩)); have n1_ := Aside0.mk (Kd.R_mono (Kd.R_told (Kd.R_oldK (IsS195.apart (show IsS195 w _ g222 x223000_2 x223001_2 from by repeat (first | (with_reducible first | exact HI222.out | apply IsS195.alloc | apply IsS195.drewN | apply IsS195.drew | apply IsS195.set_0 | apply IsS195.set_1) | exact HI222.out)) (by (with_reducible repeat (first | apply Kd.R_alloc | apply Kd.R_drewN | apply Kd.R_drew)); exact HO245.out) (by decide)) hk) (Kd.R_base ho0)) (fun _ h_ => h_.1)); have n2_ := Aside0.mk (Kd.R_lower (Kd.R_new' ho0 (Kd.R_lt (by (with_reducible repeat (first | apply Kd.R_alloc | apply Kd.R_drewN | apply Kd.R_drew)); exact HO245.out))) (below_size (by repeat (first | (with_reducible first | exact HB.out | apply below_alloc | apply pw_below_drewN | apply below_drew1 | refine below_set ?_ (IsS189.ge HI219.out) | refine below_set ?_ (IsS195.ge HI222.out)) | exact HB.out)))); have n3_ := Aside0.mk (hb); have n4_ := Aside0.mk (hi); clear HI219; clear HO245; clear HB; clear HI222; have HI219 := n0_; have HO245 := n1_; have HO250 := n2_; have HB := n3_; have HI222 := n4_; clear n0_ n1_ n2_ n3_ n4_; (try clear hb); (try clear hb2); (try clear hk); (try clear hi); (try clear ho0); obtain ⟨Ao38, co38, eo38⟩ := Kd.R_slice HO245.out; subst eo38; obtain ⟨Ao39, co39, eo39⟩ := Kd.R_slice HO250.out; subst eo39) | ((with_reducible refine gate_callee (f := 48) rfl ?_); refine goesL_ (some 70) rfl rfl Tryd.func48 (by kernel_rfl) rfl #[.slice Ao38 t243.length co38, .slice Ao39 t248.length co39] rfl (by (try simp only [List.map_toArray, List.map_cons, List.map_nil]); first | done | rfl | (simp only [List.length_drop, List.length_take]; rfl)) ?_; (with_reducible refine (taquinref01_SameNums.calls k2 _ _ t243 _ _ t248 t253 _ ?side1 ?side2 ?side3 ?side4 A35.out).mono ?_); (case side1 => repeat (first | exact (Kd.R_reads' HO245.out).2.2 | (with_reducible refine Kd.C_alloc ?_ _) | (with_reducible refine Kd.C_drewN ?_ _) | (with_reducible refine Kd.C_drew ?_))); (case side2 => exact (Kd.R_reads' HO245.out).2.1); (case side3 => repeat (first | exact (Kd.R_reads' HO250.out).2.2 | (with_reducible refine Kd.C_alloc ?_ _) | (with_reducible refine Kd.C_drewN ?_ _) | (with_reducible refine Kd.C_drew ?_))); (case side4 => exact (Kd.R_reads' HO250.out).2.1); rintro e w' ⟨rfl, ⟨nd, rfl⟩⟩; refine ⟨_, rfl, ?_⟩))
                          go_meet
                          case rel => exact ⟨_, (t253), (t246), (t247), (t251), (t252), (by first | rfl | (simp; done) | (simp [*]; done)), H', ⟨by have := HJ3.out; have := HK2.out; first | omega | exact Nat.le_refl _⟩, ⟨by repeat (first | (with_reducible first | exact HI219.out | apply IsS189.alloc | apply IsS189.drewN | apply IsS189.drew | apply IsS189.set_0 | apply IsS189.set_1) | exact HI219.out)⟩, ⟨by repeat (first | (with_reducible first | exact HI222.out | apply IsS195.alloc | apply IsS195.drewN | apply IsS195.drew | apply IsS195.set_0 | apply IsS195.set_1) | exact HI222.out)⟩, ⟨by repeat (first | (with_reducible first | exact HB.out | apply below_alloc | apply pw_below_drewN | apply below_drew1 | refine below_set ?_ (IsS189.ge HI219.out) | refine below_set ?_ (IsS195.ge HI222.out)) | exact HB.out)⟩⟩
                        · rw [if_neg c32] at H
                          have c32b0 : (t224 == 3) = false := beq_eq_false_iff_ne.mpr c32
                          have c32b1 : (t224 != 3) = true := bne_iff_ne.mpr c32
                          replace H := Option.bind_eq_some_iff.mp H
                          obtain ⟨⟨t254, t257, t258⟩, A400, H⟩ := H
                          replace H : ((taquinref01_Reader_Texts.f k2 x223000_2 x223001_2).bind fun bt259 => ((taquinref01_SameTexts.f k2 t254 bt259.1).bind fun t264 => (taquinlaw01_WireReads.j2 k2 l1 t216 x8_2 t264 t257 t258 bt259.2.1 bt259.2.2))) = some r := H
                          have A40 := Aside0.mk A400
                          clear A400
                          replace H := Option.bind_eq_some_iff.mp H
                          obtain ⟨⟨t259, t262, t263⟩, A410, H⟩ := H
                          replace H : ((taquinref01_SameTexts.f k2 t254 t259).bind fun t264 => (taquinlaw01_WireReads.j2 k2 l1 t216 x8_2 t264 t257 t258 t262 t263)) = some r := H
                          have A41 := Aside0.mk A410
                          clear A410
                          replace H := Option.bind_eq_some_iff.mp H
                          obtain ⟨t264, A420, H⟩ := H
                          replace H : (taquinlaw01_WireReads.j2 k2 l1 t216 x8_2 t264 t257 t258 t262 t263) = some r := H
                          have A42 := Aside0.mk A420
                          clear A420
                          have H' := Aside0.mk H
                          clear H
                          go_wp2_with (first | ((with_reducible refine gate_callee (f := 39) rfl ?_); refine goesL_ (some 39) rfl rfl Tryd.func39 (by kernel_rfl) rfl #[.pointer (some ⟨g219, 0, none⟩)] rfl (by (try simp only [List.map_toArray, List.map_cons, List.map_nil]); first | done | rfl | (simp only [List.length_drop, List.length_take]; rfl)) ?_; (with_reducible refine (wire_Reader_Texts.calls g219 x220000_2 x220001_2 t254 t257 t258 w _ ?side1 ?side2 A40.out HT.out).mono ?_); (case side1 => repeat (first | (with_reducible first | exact HI219.out | apply IsS189.alloc | apply IsS189.drewN | apply IsS189.drew | apply IsS189.set_0 | apply IsS189.set_1) | exact HI219.out)); (case side2 => repeat (first | (with_reducible first | exact HB.out | apply below_alloc | apply pw_below_drewN | apply below_drew1 | refine below_set ?_ (IsS189.ge HI219.out) | refine below_set ?_ (IsS195.ge HI222.out)) | exact HB.out)); rintro e w43 ⟨v255, rfl, ho0, hi, hb, hk⟩; refine ⟨_, rfl, ?_⟩; have n0_ := Aside0.mk ((show IsS195 w _ g222 x223000_2 x223001_2 from ⟨KeepBut.blk hk (show IsS195 w _ g222 x223000_2 x223001_2 from by repeat (first | (with_reducible first | exact HI222.out | apply IsS195.alloc | apply IsS195.drewN | apply IsS195.drew | apply IsS195.set_0 | apply IsS195.set_1) | exact HI222.out)).1 NB222_219.out (by simp), (show IsS195 w _ g222 x223000_2 x223001_2 from by repeat (first | (with_reducible first | exact HI222.out | apply IsS195.alloc | apply IsS195.drewN | apply IsS195.drew | apply IsS195.set_0 | apply IsS195.set_1) | exact HI222.out)).2⟩)); have n1_ := Aside0.mk (Kd.R_lower ho0 (below_size (by repeat (first | (with_reducible first | exact HB.out | apply below_alloc | apply pw_below_drewN | apply below_drew1 | refine below_set ?_ (IsS189.ge HI219.out) | refine below_set ?_ (IsS195.ge HI222.out)) | exact HB.out)))); have n2_ := Aside0.mk (hb); have n3_ := Aside0.mk (hi); clear HI222; clear HB; clear HI219; have HI222 := n0_; have HO256 := n1_; have HB := n2_; have HI219 := n3_; clear n0_ n1_ n2_ n3_; (try clear hb); (try clear hb2); (try clear hk); (try clear hi); (try clear ho0)) | ((with_reducible refine gate_callee (f := 51) rfl ?_); refine goesL_ (some 41) rfl rfl Tryd.func51 (by kernel_rfl) rfl #[.pointer (some ⟨g222, 0, none⟩)] rfl (by (try simp only [List.map_toArray, List.map_cons, List.map_nil]); first | done | rfl | (simp only [List.length_drop, List.length_take]; rfl)) ?_; (with_reducible refine (taquinref01_Reader_Texts.calls k2 g222 x223000_2 x223001_2 t259 t262 t263 w _ ?side1 ?side2 A41.out).mono ?_); (case side1 => repeat (first | (with_reducible first | exact HI222.out | apply IsS195.alloc | apply IsS195.drewN | apply IsS195.drew | apply IsS195.set_0 | apply IsS195.set_1) | exact HI222.out)); (case side2 => repeat (first | (with_reducible first | exact HB.out | apply below_alloc | apply pw_below_drewN | apply below_drew1 | refine below_set ?_ (IsS189.ge HI219.out) | refine below_set ?_ (IsS195.ge HI222.out)) | exact HB.out)); rintro e w44 ⟨v260, rfl, ho0, hi, hb, hk⟩; refine ⟨_, rfl, ?_⟩; have n0_ := Aside0.mk ((show IsS189 w _ g219 t257 t258 from ⟨KeepBut.blk hk (show IsS189 w _ g219 t257 t258 from by repeat (first | (with_reducible first | exact HI219.out | apply IsS189.alloc | apply IsS189.drewN | apply IsS189.drew | apply IsS189.set_0 | apply IsS189.set_1) | exact HI219.out)).1 NB219_222.out (by simp), (show IsS189 w _ g219 t257 t258 from by repeat (first | (with_reducible first | exact HI219.out | apply IsS189.alloc | apply IsS189.drewN | apply IsS189.drew | apply IsS189.set_0 | apply IsS189.set_1) | exact HI219.out)).2⟩)); have n1_ := Aside0.mk (Kd.R_mono (Kd.R_told (Kd.R_oldK (IsS195.apart (show IsS195 w _ g222 x223000_2 x223001_2 from by repeat (first | (with_reducible first | exact HI222.out | apply IsS195.alloc | apply IsS195.drewN | apply IsS195.drew | apply IsS195.set_0 | apply IsS195.set_1) | exact HI222.out)) (by (with_reducible repeat (first | apply Kd.R_alloc | apply Kd.R_drewN | apply Kd.R_drew)); exact HO256.out) (by decide)) hk) (Kd.R_base ho0)) (fun _ h_ => h_.1)); have n2_ := Aside0.mk (Kd.R_lower (Kd.R_new' ho0 (Kd.R_lt (by (with_reducible repeat (first | apply Kd.R_alloc | apply Kd.R_drewN | apply Kd.R_drew)); exact HO256.out))) (below_size (by repeat (first | (with_reducible first | exact HB.out | apply below_alloc | apply pw_below_drewN | apply below_drew1 | refine below_set ?_ (IsS189.ge HI219.out) | refine below_set ?_ (IsS195.ge HI222.out)) | exact HB.out)))); have n3_ := Aside0.mk (hb); have n4_ := Aside0.mk (hi); clear HI219; clear HO256; clear HB; clear HI222; have HI219 := n0_; have HO256 := n1_; have HO261 := n2_; have HB := n3_; have HI222 := n4_; clear n0_ n1_ n2_ n3_ n4_; (try clear hb); (try clear hb2); (try clear hk); (try clear hi); (try clear ho0); obtain ⟨Ao45, co45, eo45⟩ := Kd.R_slice HO256.out; subst eo45; obtain ⟨Ao46, co46, eo46⟩ := Kd.R_slice HO261.out; subst eo46) | ((with_reducible refine gate_callee (f := 50) rfl ?_); refine goesL_ (some 42) rfl rfl Tryd.func50 (by kernel_rfl) rfl #[.slice Ao45 t254.length co45, .slice Ao46 t259.length co46] rfl (by (try simp only [List.map_toArray, List.map_cons, List.map_nil]); first | done | rfl | (simp only [List.length_drop, List.length_take]; rfl)) ?_; (with_reducible refine (taquinref01_SameTexts.calls k2 _ _ t254 _ _ t259 t264 _ ?side1 ?side2 ?side3 ?side4 A42.out).mono ?_); (case side1 => repeat (first | exact (Kd.R_reads' HO256.out).2.2 | (with_reducible refine Kd.C_alloc ?_ _) | (with_reducible refine Kd.C_drewN ?_ _) | (with_reducible refine Kd.C_drew ?_))); (case side2 => exact (Kd.R_reads' HO256.out).2.1); (case side3 => repeat (first | exact (Kd.R_reads' HO261.out).2.2 | (with_reducible refine Kd.C_alloc ?_ _) | (with_reducible refine Kd.C_drewN ?_ _) | (with_reducible refine Kd.C_drew ?_))); (case side4 => exact (Kd.R_reads' HO261.out).2.1); rintro e w' ⟨rfl, ⟨nd, rfl⟩⟩; refine ⟨_, rfl, ?_⟩))
                          go_meet
                          case rel => exact ⟨_, (t264), (t257), (t258), (t262), (t263), (by first | rfl | (simp; done) | (simp [*]; done)), H', ⟨by have := HJ3.out; have := HK2.out; first | omega | exact Nat.le_refl _⟩, ⟨by repeat (first | (with_reducible first | exact HI219.out | apply IsS189.alloc | apply IsS189.drewN | apply IsS189.drew | apply IsS189.set_0 | apply IsS189.set_1) | exact HI219.out)⟩, ⟨by repeat (first | (with_reducible first | exact HI222.out | apply IsS195.alloc | apply IsS195.drewN | apply IsS195.drew | apply IsS195.set_0 | apply IsS195.set_1) | exact HI222.out)⟩, ⟨by repeat (first | (with_reducible first | exact HB.out | apply below_alloc | apply pw_below_drewN | apply below_drew1 | refine below_set ?_ (IsS189.ge HI219.out) | refine below_set ?_ (IsS195.ge HI222.out)) | exact HB.out)⟩⟩
                case rest =>
                  clear HC15
                  try clear c1
                  try clear c2
                  try clear p2
                  try clear q2
                  try clear hx2
                  try clear c3
                  try clear c4
                  try clear c5
                  try clear c6
                  try clear c6b0
                  try clear c6b1
                  try clear c7
                  try clear c12
                  try clear c12b0
                  try clear c13
                  try clear c13b0
                  try clear c17
                  try clear c17b0
                  try clear c17b1
                  try clear c21
                  try clear c22
                  try clear c22b0
                  try clear c22b1
                  try clear p22
                  try clear q22
                  try clear hx22
                  try clear c27
                  try clear c27b0
                  try clear c27b1
                  try clear c32
                  try clear c32b0
                  try clear c32b1
                  try clear c33
                  try clear c34
                  try clear c35
                  try clear c36
                  try clear c37
                  try clear c38
                  try clear c39
                  try clear c44
                  try clear c45
                  try clear c46
                  try clear hx223_0
                  try clear p2
                  try clear p223
                  try clear q223
                  obtain ⟨kq, x9_14, x220000_14, x220001_14, x223000_14, x223001_14, rfl, HA, HJ14, HI219, HI222, HB⟩ := hcut
                  cases kq with
                  | zero => exact absurd HA.out (by simp [taquinlaw01_WireReads.j2])
                  | succ kj14 =>
                    have H := HA.out
                    clear HA
                    simp only [taquinlaw01_WireReads.j2] at H
                    by_cases c47 : x9_14 = true
                    · subst c47
                      have H1 : ((wire_Reader_Left.f x220000_14 x220001_14).bind fun bt265 => ((taquinref01_Reader_Left.f x223000_14 x223001_14).bind fun bt268 => (if bt265.1 = bt268.1 then ((wire_Reader_Done.f bt265.2.1 bt265.2.2).bind fun bt271 => ((taquinref01_Reader_Done.f bt268.2.1 bt268.2.2).bind fun bt274 => (if (bt271.1 != bt274.1) = true then (none) else (taquinlaw01_WireReads.l0 kj14 l1 t216 (wrap64 (x8_2 + 1)) bt271.2.1 bt271.2.2 bt274.2.1 bt274.2.2)))) else (none)))) = some r := by rw [if_pos rfl] at H; exact H
                      clear H
                      have H := H1
                      clear H1
                      replace H := Option.bind_eq_some_iff.mp H
                      obtain ⟨⟨t265, t266, t267⟩, A480, H⟩ := H
                      replace H : ((taquinref01_Reader_Left.f x223000_14 x223001_14).bind fun bt268 => (if t265 = bt268.1 then ((wire_Reader_Done.f t266 t267).bind fun bt271 => ((taquinref01_Reader_Done.f bt268.2.1 bt268.2.2).bind fun bt274 => (if (bt271.1 != bt274.1) = true then (none) else (taquinlaw01_WireReads.l0 kj14 l1 t216 (wrap64 (x8_2 + 1)) bt271.2.1 bt271.2.2 bt274.2.1 bt274.2.2)))) else (none))) = some r := H
                      have A48 := Aside0.mk A480
                      clear A480
                      replace H := Option.bind_eq_some_iff.mp H
                      obtain ⟨⟨t268, t269, t270⟩, A490, H⟩ := H
                      replace H : (if t265 = t268 then ((wire_Reader_Done.f t266 t267).bind fun bt271 => ((taquinref01_Reader_Done.f t269 t270).bind fun bt274 => (if (bt271.1 != bt274.1) = true then (none) else (taquinlaw01_WireReads.l0 kj14 l1 t216 (wrap64 (x8_2 + 1)) bt271.2.1 bt271.2.2 bt274.2.1 bt274.2.2)))) else (none)) = some r := H
                      have A49 := Aside0.mk A490
                      clear A490
                      by_cases c50 : t265 = t268
                      · rw [if_pos c50] at H
                        have c50b0 : (t265 == t268) = true := beq_iff_eq.mpr c50
                        have c50b1 : (t265 != t268) = false := bne_eq_false_iff_eq.mpr c50
                        clear c50
                        replace H := Option.bind_eq_some_iff.mp H
                        obtain ⟨⟨t271, t272, t273⟩, A510, H⟩ := H
                        replace H : ((taquinref01_Reader_Done.f t269 t270).bind fun bt274 => (if (t271 != bt274.1) = true then (none) else (taquinlaw01_WireReads.l0 kj14 l1 t216 (wrap64 (x8_2 + 1)) t272 t273 bt274.2.1 bt274.2.2))) = some r := H
                        have A51 := Aside0.mk A510
                        clear A510
                        replace H := Option.bind_eq_some_iff.mp H
                        obtain ⟨⟨t274, t275, t276⟩, A520, H⟩ := H
                        replace H : (if (t271 != t274) = true then (none) else (taquinlaw01_WireReads.l0 kj14 l1 t216 (wrap64 (x8_2 + 1)) t272 t273 t275 t276)) = some r := H
                        have A52 := Aside0.mk A520
                        clear A520
                        by_cases c53 : (t271 != t274) = true
                        · rw [if_pos c53] at H
                          exact absurd H (by simp)
                        · rw [if_neg c53] at H
                          have c53b0 : (t271 != t274) = false := by simpa using c53
                          (try (have c53b1 : decide (t271 = t274) = true := by simpa using c53))
                          (try (have c53b2 : (t271 == t274) = true := by simpa using c53))
                          clear c53
                          have H' := Aside0.mk H
                          clear H
                          go_wp2_with (first | (go_at_call 40; (with_reducible refine (wire_Reader_Left.calls g219 x220000_14 x220001_14 t265 t266 t267 w _ ?side1 ?side2 A48.out).mono ?_); (case side1 => repeat (first | (with_reducible first | exact HI219.out | apply IsS189.alloc | apply IsS189.drewN | apply IsS189.drew | apply IsS189.set_0 | apply IsS189.set_1) | exact HI219.out)); (case side2 => repeat (first | (with_reducible first | exact HB.out | apply below_alloc | apply pw_below_drewN | apply below_drew1 | refine below_set ?_ (IsS189.ge HI219.out) | refine below_set ?_ (IsS195.ge HI222.out)) | exact HB.out)); rintro e w54 ⟨rfl, hi, hb, hk⟩; have n0_ := Aside0.mk ((show IsS195 w _ g222 x223000_14 x223001_14 from ⟨KeepBut.blk hk (show IsS195 w _ g222 x223000_14 x223001_14 from by repeat (first | (with_reducible first | exact HI222.out | apply IsS195.alloc | apply IsS195.drewN | apply IsS195.drew | apply IsS195.set_0 | apply IsS195.set_1) | exact HI222.out)).1 NB222_219.out (by simp), (show IsS195 w _ g222 x223000_14 x223001_14 from by repeat (first | (with_reducible first | exact HI222.out | apply IsS195.alloc | apply IsS195.drewN | apply IsS195.drew | apply IsS195.set_0 | apply IsS195.set_1) | exact HI222.out)).2⟩)); have n1_ := Aside0.mk (hb); have n2_ := Aside0.mk (hi); clear HI222; clear HB; clear HI219; have HI222 := n0_; have HB := n1_; have HI219 := n2_; clear n0_ n1_ n2_; (try clear hb); (try clear hb2); (try clear hk); (try clear hi)) | (go_at_call 52; (with_reducible refine (taquinref01_Reader_Left.calls g222 x223000_14 x223001_14 t268 t269 t270 w _ ?side1 ?side2 A49.out).mono ?_); (case side1 => repeat (first | (with_reducible first | exact HI222.out | apply IsS195.alloc | apply IsS195.drewN | apply IsS195.drew | apply IsS195.set_0 | apply IsS195.set_1) | exact HI222.out)); (case side2 => repeat (first | (with_reducible first | exact HB.out | apply below_alloc | apply pw_below_drewN | apply below_drew1 | refine below_set ?_ (IsS189.ge HI219.out) | refine below_set ?_ (IsS195.ge HI222.out)) | exact HB.out)); rintro e w55 ⟨rfl, hi, hb, hk⟩; have n0_ := Aside0.mk ((show IsS189 w _ g219 t266 t267 from ⟨KeepBut.blk hk (show IsS189 w _ g219 t266 t267 from by repeat (first | (with_reducible first | exact HI219.out | apply IsS189.alloc | apply IsS189.drewN | apply IsS189.drew | apply IsS189.set_0 | apply IsS189.set_1) | exact HI219.out)).1 NB219_222.out (by simp), (show IsS189 w _ g219 t266 t267 from by repeat (first | (with_reducible first | exact HI219.out | apply IsS189.alloc | apply IsS189.drewN | apply IsS189.drew | apply IsS189.set_0 | apply IsS189.set_1) | exact HI219.out)).2⟩)); have n1_ := Aside0.mk (hb); have n2_ := Aside0.mk (hi); clear HI219; clear HB; clear HI222; have HI219 := n0_; have HB := n1_; have HI222 := n2_; clear n0_ n1_ n2_; (try clear hb); (try clear hb2); (try clear hk); (try clear hi)) | (go_at_call 41; (with_reducible refine (wire_Reader_Done.calls g219 t266 t267 t271 t272 t273 w _ ?side1 ?side2 A51.out).mono ?_); (case side1 => repeat (first | (with_reducible first | exact HI219.out | apply IsS189.alloc | apply IsS189.drewN | apply IsS189.drew | apply IsS189.set_0 | apply IsS189.set_1) | exact HI219.out)); (case side2 => repeat (first | (with_reducible first | exact HB.out | apply below_alloc | apply pw_below_drewN | apply below_drew1 | refine below_set ?_ (IsS189.ge HI219.out) | refine below_set ?_ (IsS195.ge HI222.out)) | exact HB.out)); rintro e w56 ⟨rfl, hi, hb, hk⟩; have n0_ := Aside0.mk ((show IsS195 w _ g222 t269 t270 from ⟨KeepBut.blk hk (show IsS195 w _ g222 t269 t270 from by repeat (first | (with_reducible first | exact HI222.out | apply IsS195.alloc | apply IsS195.drewN | apply IsS195.drew | apply IsS195.set_0 | apply IsS195.set_1) | exact HI222.out)).1 NB222_219.out (by simp), (show IsS195 w _ g222 t269 t270 from by repeat (first | (with_reducible first | exact HI222.out | apply IsS195.alloc | apply IsS195.drewN | apply IsS195.drew | apply IsS195.set_0 | apply IsS195.set_1) | exact HI222.out)).2⟩)); have n1_ := Aside0.mk (hb); have n2_ := Aside0.mk (hi); clear HI222; clear HB; clear HI219; have HI222 := n0_; have HB := n1_; have HI219 := n2_; clear n0_ n1_ n2_; (try clear hb); (try clear hb2); (try clear hk); (try clear hi)) | (go_at_call 53; (with_reducible refine (taquinref01_Reader_Done.calls g222 t269 t270 t274 t275 t276 w _ ?side1 ?side2 A52.out).mono ?_); (case side1 => repeat (first | (with_reducible first | exact HI222.out | apply IsS195.alloc | apply IsS195.drewN | apply IsS195.drew | apply IsS195.set_0 | apply IsS195.set_1) | exact HI222.out)); (case side2 => repeat (first | (with_reducible first | exact HB.out | apply below_alloc | apply pw_below_drewN | apply below_drew1 | refine below_set ?_ (IsS189.ge HI219.out) | refine below_set ?_ (IsS195.ge HI222.out)) | exact HB.out)); rintro e w57 ⟨rfl, hi, hb, hk⟩; have n0_ := Aside0.mk ((show IsS189 w _ g219 t272 t273 from ⟨KeepBut.blk hk (show IsS189 w _ g219 t272 t273 from by repeat (first | (with_reducible first | exact HI219.out | apply IsS189.alloc | apply IsS189.drewN | apply IsS189.drew | apply IsS189.set_0 | apply IsS189.set_1) | exact HI219.out)).1 NB219_222.out (by simp), (show IsS189 w _ g219 t272 t273 from by repeat (first | (with_reducible first | exact HI219.out | apply IsS189.alloc | apply IsS189.drewN | apply IsS189.drew | apply IsS189.set_0 | apply IsS189.set_1) | exact HI219.out)).2⟩)); have n1_ := Aside0.mk (hb); have n2_ := Aside0.mk (hi); clear HI219; clear HB; clear HI222; have HI219 := n0_; have HB := n1_; have HI222 := n2_; clear n0_ n1_ n2_; (try clear hb); (try clear hb2); (try clear hk); (try clear hi)))
                          go_roundg kj14
                          case measure => have := HJ3.out; have := HK2.out; have := HJ14.out; omega
                          case rel => exact ⟨(wrap64 (x8_2 + 1)), (t272), (t273), (t275), (t276), (by first | rfl | (simp; done) | (simp [*]; done)), H', ⟨by have := HJ3.out; have := HK2.out; have := HJ14.out; omega⟩, ⟨by repeat (first | (with_reducible first | exact HI219.out | apply IsS189.alloc | apply IsS189.drewN | apply IsS189.drew | apply IsS189.set_0 | apply IsS189.set_1) | exact HI219.out)⟩, ⟨by repeat (first | (with_reducible first | exact HI222.out | apply IsS195.alloc | apply IsS195.drewN | apply IsS195.drew | apply IsS195.set_0 | apply IsS195.set_1) | exact HI222.out)⟩, ⟨by repeat (first | (with_reducible first | exact HB.out | apply below_alloc | apply pw_below_drewN | apply below_drew1 | refine below_set ?_ (IsS189.ge HI219.out) | refine below_set ?_ (IsS195.ge HI222.out)) | exact HB.out)⟩⟩
                      · rw [if_neg c50] at H
                        exact absurd H (by simp)
                    · replace c47 := Bool.eq_false_iff.mpr c47
                      subst c47
                      have H1 : (none) = some r := by rw [if_neg (show ¬ (false = true) by decide)] at H; exact H
                      clear H
                      have H := H1
                      clear H1
                      exact absurd H (by simp)
              · rw [if_neg c13] at H
                exact absurd H (by simp)
            · rw [if_neg c12] at H
              have c12b0 : decide (x8_2 < (l1.length : Int)) = false := decide_eq_false c12
              clear c12
              by_cases c58 : t216 = true
              · subst c58
                have H1 : ((wire_Reader_Rest.f x220000_2 x220001_2).bind fun bt277 => ((taquinref01_Reader_Tail.f x223000_2 x223001_2).bind fun bt280 => (if bt277.1.toList = bt280.1.toList then ((wire_Reader_Left.f bt277.2.1 bt277.2.2).bind fun bt283 => ((taquinref01_Reader_Left.f bt280.2.1 bt280.2.2).bind fun bt286 => (if bt283.1 = bt286.1 then ((wire_Reader_Done.f bt283.2.1 bt283.2.2).bind fun bt289 => ((taquinref01_Reader_Done.f bt286.2.1 bt286.2.2).bind fun bt292 => (some (bt289.1 == bt292.1)))) else (none)))) else (none)))) = some r := by rw [if_pos rfl] at H; exact H
                clear H
                have H := H1
                clear H1
                replace H := Option.bind_eq_some_iff.mp H
                obtain ⟨⟨t277, t278, t279⟩, A590, H⟩ := H
                replace H : ((taquinref01_Reader_Tail.f x223000_2 x223001_2).bind fun bt280 => (if t277.toList = bt280.1.toList then ((wire_Reader_Left.f t278 t279).bind fun bt283 => ((taquinref01_Reader_Left.f bt280.2.1 bt280.2.2).bind fun bt286 => (if bt283.1 = bt286.1 then ((wire_Reader_Done.f bt283.2.1 bt283.2.2).bind fun bt289 => ((taquinref01_Reader_Done.f bt286.2.1 bt286.2.2).bind fun bt292 => (some (bt289.1 == bt292.1)))) else (none)))) else (none))) = some r := H
                have A59 := Aside0.mk A590
                clear A590
                replace H := Option.bind_eq_some_iff.mp H
                obtain ⟨⟨t280, t281, t282⟩, A600, H⟩ := H
                replace H : (if t277.toList = t280.toList then ((wire_Reader_Left.f t278 t279).bind fun bt283 => ((taquinref01_Reader_Left.f t281 t282).bind fun bt286 => (if bt283.1 = bt286.1 then ((wire_Reader_Done.f bt283.2.1 bt283.2.2).bind fun bt289 => ((taquinref01_Reader_Done.f bt286.2.1 bt286.2.2).bind fun bt292 => (some (bt289.1 == bt292.1)))) else (none)))) else (none)) = some r := H
                have A60 := Aside0.mk A600
                clear A600
                by_cases c61 : t277.toList = t280.toList
                · rw [if_pos c61] at H
                  have c61b0 : (t277.toList == t280.toList) = true := beq_iff_eq.mpr c61
                  have c61b1 : (t277.toList != t280.toList) = false := bne_eq_false_iff_eq.mpr c61
                  clear c61
                  replace H := Option.bind_eq_some_iff.mp H
                  obtain ⟨⟨t283, t284, t285⟩, A620, H⟩ := H
                  replace H : ((taquinref01_Reader_Left.f t281 t282).bind fun bt286 => (if t283 = bt286.1 then ((wire_Reader_Done.f t284 t285).bind fun bt289 => ((taquinref01_Reader_Done.f bt286.2.1 bt286.2.2).bind fun bt292 => (some (bt289.1 == bt292.1)))) else (none))) = some r := H
                  have A62 := Aside0.mk A620
                  clear A620
                  replace H := Option.bind_eq_some_iff.mp H
                  obtain ⟨⟨t286, t287, t288⟩, A630, H⟩ := H
                  replace H : (if t283 = t286 then ((wire_Reader_Done.f t284 t285).bind fun bt289 => ((taquinref01_Reader_Done.f t287 t288).bind fun bt292 => (some (bt289.1 == bt292.1)))) else (none)) = some r := H
                  have A63 := Aside0.mk A630
                  clear A630
                  by_cases c64 : t283 = t286
                  · rw [if_pos c64] at H
                    have c64b0 : (t283 == t286) = true := beq_iff_eq.mpr c64
                    have c64b1 : (t283 != t286) = false := bne_eq_false_iff_eq.mpr c64
                    clear c64
                    replace H := Option.bind_eq_some_iff.mp H
                    obtain ⟨⟨t289, t290, t291⟩, A650, H⟩ := H
                    replace H : ((taquinref01_Reader_Done.f t287 t288).bind fun bt292 => (some (t289 == bt292.1))) = some r := H
                    have A65 := Aside0.mk A650
                    clear A650
                    replace H := Option.bind_eq_some_iff.mp H
                    obtain ⟨⟨t292, t293, t294⟩, A660, H⟩ := H
                    replace H : (some (t289 == t292)) = some r := H
                    have A66 := Aside0.mk A660
                    clear A660
                    obtain rfl := Option.some.inj H
                    go_wp2_with (first | (go_at_call 54; (with_reducible refine (wire_Reader_Rest.calls g219 x220000_2 x220001_2 t277 t278 t279 w _ ?side1 ?side2 A59.out).mono ?_); (case side1 => repeat (first | (with_reducible first | exact HI219.out | apply IsS189.alloc | apply IsS189.drewN | apply IsS189.drew | apply IsS189.set_0 | apply IsS189.set_1) | exact HI219.out)); (case side2 => repeat (first | (with_reducible first | exact HB.out | apply below_alloc | apply pw_below_drewN | apply below_drew1 | refine below_set ?_ (IsS189.ge HI219.out) | refine below_set ?_ (IsS195.ge HI222.out)) | exact HB.out)); rintro e w67 ⟨rfl, hi, hb, hk⟩; have n0_ := Aside0.mk ((show IsS195 w _ g222 x223000_2 x223001_2 from ⟨KeepBut.blk hk (show IsS195 w _ g222 x223000_2 x223001_2 from by repeat (first | (with_reducible first | exact HI222.out | apply IsS195.alloc | apply IsS195.drewN | apply IsS195.drew | apply IsS195.set_0 | apply IsS195.set_1) | exact HI222.out)).1 NB222_219.out (by simp), (show IsS195 w _ g222 x223000_2 x223001_2 from by repeat (first | (with_reducible first | exact HI222.out | apply IsS195.alloc | apply IsS195.drewN | apply IsS195.drew | apply IsS195.set_0 | apply IsS195.set_1) | exact HI222.out)).2⟩)); have n1_ := Aside0.mk (hb); have n2_ := Aside0.mk (hi); clear HI222; clear HB; clear HI219; have HI222 := n0_; have HB := n1_; have HI219 := n2_; clear n0_ n1_ n2_; (try clear hb); (try clear hb2); (try clear hk); (try clear hi)) | (go_at_call 55; (with_reducible refine (taquinref01_Reader_Tail.calls g222 x223000_2 x223001_2 t280 t281 t282 w _ ?side1 ?side2 A60.out).mono ?_); (case side1 => repeat (first | (with_reducible first | exact HI222.out | apply IsS195.alloc | apply IsS195.drewN | apply IsS195.drew | apply IsS195.set_0 | apply IsS195.set_1) | exact HI222.out)); (case side2 => repeat (first | (with_reducible first | exact HB.out | apply below_alloc | apply pw_below_drewN | apply below_drew1 | refine below_set ?_ (IsS189.ge HI219.out) | refine below_set ?_ (IsS195.ge HI222.out)) | exact HB.out)); rintro e w68 ⟨rfl, hi, hb, hk⟩; have n0_ := Aside0.mk ((show IsS189 w _ g219 t278 t279 from ⟨KeepBut.blk hk (show IsS189 w _ g219 t278 t279 from by repeat (first | (with_reducible first | exact HI219.out | apply IsS189.alloc | apply IsS189.drewN | apply IsS189.drew | apply IsS189.set_0 | apply IsS189.set_1) | exact HI219.out)).1 NB219_222.out (by simp), (show IsS189 w _ g219 t278 t279 from by repeat (first | (with_reducible first | exact HI219.out | apply IsS189.alloc | apply IsS189.drewN | apply IsS189.drew | apply IsS189.set_0 | apply IsS189.set_1) | exact HI219.out)).2⟩)); have n1_ := Aside0.mk (hb); have n2_ := Aside0.mk (hi); clear HI219; clear HB; clear HI222; have HI219 := n0_; have HB := n1_; have HI222 := n2_; clear n0_ n1_ n2_; (try clear hb); (try clear hb2); (try clear hk); (try clear hi)) | (go_at_call 40; (with_reducible refine (wire_Reader_Left.calls g219 t278 t279 t283 t284 t285 w _ ?side1 ?side2 A62.out).mono ?_); (case side1 => repeat (first | (with_reducible first | exact HI219.out | apply IsS189.alloc | apply IsS189.drewN | apply IsS189.drew | apply IsS189.set_0 | apply IsS189.set_1) | exact HI219.out)); (case side2 => repeat (first | (with_reducible first | exact HB.out | apply below_alloc | apply pw_below_drewN | apply below_drew1 | refine below_set ?_ (IsS189.ge HI219.out) | refine below_set ?_ (IsS195.ge HI222.out)) | exact HB.out)); rintro e w69 ⟨rfl, hi, hb, hk⟩; have n0_ := Aside0.mk ((show IsS195 w _ g222 t281 t282 from ⟨KeepBut.blk hk (show IsS195 w _ g222 t281 t282 from by repeat (first | (with_reducible first | exact HI222.out | apply IsS195.alloc | apply IsS195.drewN | apply IsS195.drew | apply IsS195.set_0 | apply IsS195.set_1) | exact HI222.out)).1 NB222_219.out (by simp), (show IsS195 w _ g222 t281 t282 from by repeat (first | (with_reducible first | exact HI222.out | apply IsS195.alloc | apply IsS195.drewN | apply IsS195.drew | apply IsS195.set_0 | apply IsS195.set_1) | exact HI222.out)).2⟩)); have n1_ := Aside0.mk (hb); have n2_ := Aside0.mk (hi); clear HI222; clear HB; clear HI219; have HI222 := n0_; have HB := n1_; have HI219 := n2_; clear n0_ n1_ n2_; (try clear hb); (try clear hb2); (try clear hk); (try clear hi)) | (go_at_call 52; (with_reducible refine (taquinref01_Reader_Left.calls g222 t281 t282 t286 t287 t288 w _ ?side1 ?side2 A63.out).mono ?_); (case side1 => repeat (first | (with_reducible first | exact HI222.out | apply IsS195.alloc | apply IsS195.drewN | apply IsS195.drew | apply IsS195.set_0 | apply IsS195.set_1) | exact HI222.out)); (case side2 => repeat (first | (with_reducible first | exact HB.out | apply below_alloc | apply pw_below_drewN | apply below_drew1 | refine below_set ?_ (IsS189.ge HI219.out) | refine below_set ?_ (IsS195.ge HI222.out)) | exact HB.out)); rintro e w70 ⟨rfl, hi, hb, hk⟩; have n0_ := Aside0.mk ((show IsS189 w _ g219 t284 t285 from ⟨KeepBut.blk hk (show IsS189 w _ g219 t284 t285 from by repeat (first | (with_reducible first | exact HI219.out | apply IsS189.alloc | apply IsS189.drewN | apply IsS189.drew | apply IsS189.set_0 | apply IsS189.set_1) | exact HI219.out)).1 NB219_222.out (by simp), (show IsS189 w _ g219 t284 t285 from by repeat (first | (with_reducible first | exact HI219.out | apply IsS189.alloc | apply IsS189.drewN | apply IsS189.drew | apply IsS189.set_0 | apply IsS189.set_1) | exact HI219.out)).2⟩)); have n1_ := Aside0.mk (hb); have n2_ := Aside0.mk (hi); clear HI219; clear HB; clear HI222; have HI219 := n0_; have HB := n1_; have HI222 := n2_; clear n0_ n1_ n2_; (try clear hb); (try clear hb2); (try clear hk); (try clear hi)) | (go_at_call 41; (with_reducible refine (wire_Reader_Done.calls g219 t284 t285 t289 t290 t291 w _ ?side1 ?side2 A65.out).mono ?_); (case side1 => repeat (first | (with_reducible first | exact HI219.out | apply IsS189.alloc | apply IsS189.drewN | apply IsS189.drew | apply IsS189.set_0 | apply IsS189.set_1) | exact HI219.out)); (case side2 => repeat (first | (with_reducible first | exact HB.out | apply below_alloc | apply pw_below_drewN | apply below_drew1 | refine below_set ?_ (IsS189.ge HI219.out) | refine below_set ?_ (IsS195.ge HI222.out)) | exact HB.out)); rintro e w71 ⟨rfl, hi, hb, hk⟩; have n0_ := Aside0.mk ((show IsS195 w _ g222 t287 t288 from ⟨KeepBut.blk hk (show IsS195 w _ g222 t287 t288 from by repeat (first | (with_reducible first | exact HI222.out | apply IsS195.alloc | apply IsS195.drewN | apply IsS195.drew | apply IsS195.set_0 | apply IsS195.set_1) | exact HI222.out)).1 NB222_219.out (by simp), (show IsS195 w _ g222 t287 t288 from by repeat (first | (with_reducible first | exact HI222.out | apply IsS195.alloc | apply IsS195.drewN | apply IsS195.drew | apply IsS195.set_0 | apply IsS195.set_1) | exact HI222.out)).2⟩)); have n1_ := Aside0.mk (hb); have n2_ := Aside0.mk (hi); clear HI222; clear HB; clear HI219; have HI222 := n0_; have HB := n1_; have HI219 := n2_; clear n0_ n1_ n2_; (try clear hb); (try clear hb2); (try clear hk); (try clear hi)) | (go_at_call 53; (with_reducible refine (taquinref01_Reader_Done.calls g222 t287 t288 t292 t293 t294 w _ ?side1 ?side2 A66.out).mono ?_); (case side1 => repeat (first | (with_reducible first | exact HI222.out | apply IsS195.alloc | apply IsS195.drewN | apply IsS195.drew | apply IsS195.set_0 | apply IsS195.set_1) | exact HI222.out)); (case side2 => repeat (first | (with_reducible first | exact HB.out | apply below_alloc | apply pw_below_drewN | apply below_drew1 | refine below_set ?_ (IsS189.ge HI219.out) | refine below_set ?_ (IsS195.ge HI222.out)) | exact HB.out)); rintro e w72 ⟨rfl, hi, hb, hk⟩; have n0_ := Aside0.mk ((show IsS189 w _ g219 t290 t291 from ⟨KeepBut.blk hk (show IsS189 w _ g219 t290 t291 from by repeat (first | (with_reducible first | exact HI219.out | apply IsS189.alloc | apply IsS189.drewN | apply IsS189.drew | apply IsS189.set_0 | apply IsS189.set_1) | exact HI219.out)).1 NB219_222.out (by simp), (show IsS189 w _ g219 t290 t291 from by repeat (first | (with_reducible first | exact HI219.out | apply IsS189.alloc | apply IsS189.drewN | apply IsS189.drew | apply IsS189.set_0 | apply IsS189.set_1) | exact HI219.out)).2⟩)); have n1_ := Aside0.mk (hb); have n2_ := Aside0.mk (hi); clear HI219; clear HB; clear HI222; have HI219 := n0_; have HB := n1_; have HI222 := n2_; clear n0_ n1_ n2_; (try clear hb); (try clear hb2); (try clear hk); (try clear hi)))
                    go_ret
                    exact ⟨by first | rfl | (simp [errW_none, errW_some] <;> rfl) | (simp [*, errW_none, errW_some] <;> rfl), by repeat (first | (with_reducible first | exact HB.out | apply below_alloc | apply pw_below_drewN | apply below_drew1 | refine below_set ?_ (IsS189.ge HI219.out) | refine below_set ?_ (IsS195.ge HI222.out)) | exact HB.out)⟩
                  · rw [if_neg c64] at H
                    exact absurd H (by simp)
                · rw [if_neg c61] at H
                  exact absurd H (by simp)
              · replace c58 := Bool.eq_false_iff.mpr c58
                subst c58
                have H1 : (none) = some r := by rw [if_neg (show ¬ (false = true) by decide)] at H; exact H
                clear H
                have H := H1
                clear H1
                exact absurd H (by simp)

end Go.Proofs.YtigdjhnpngjhjaaDoor.PWt
