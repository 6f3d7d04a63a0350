-- squeezed by a program of this claim's own (wip/tools/fit.py), after the kit's printer
import Derived.Test.YtphcihbffiggbaaGreatDoorPRtx0
import Derived.Test.YtphcihbffiggbaaGreatDoorPRtx7
namespace Go.Proofs.YtphcihbffiggbaaGreatDoor.PRt
open Go.RowKit Go.Proofs.YtphcihbffiggbaaGreatDoorW.PrintWords Go.Proofs.YtphcihbffiggbaaGreatDoorW.PrintLast Go.Proofs.YtphcihbffiggbaaGreatDoorW.PrintMore
attribute [local go_sem] max2_int min2_int max_two min_two max_three min_three max_four min_four   -- for this text's walks alone
set_option linter.unusedVariables false
set_option linter.unusedSimpArgs false
def taquinlaw22_few.f (k : Nat) (a0_0 : Int) (a0_1 : Int) (a0_2 : Int) (l0_3 : List Int) (l0_4 : List Int) (a1_0 : Int) (l1_1 : List Int) : Option (Bool) := if (l0_3.length : Int) ≤ 40 then (if (l0_4.length : Int) ≤ 40 then (if (l1_1.length : Int) ≤ 10 then ((taquinref07_Right.f k a0_0 a0_1 a0_2 l0_3 l0_4).bind fun t255 => (some t255)) else (some false)) else (some false)) else (some false)
theorem taquinlaw22_few.mono : ∀ a0 a1 a2 a3 a4 a5 a6 k, LeO (taquinlaw22_few.f k a0 a1 a2 a3 a4 a5 a6) (taquinlaw22_few.f (k + 1) a0 a1 a2 a3 a4 a5 a6) := by
 intro a0 a1 a2 a3 a4 a5 a6 k
 unfold taquinlaw22_few.f
 exact LeO.ite (LeO.ite (LeO.ite (LeO.bind (taquinref07_Right.mono _ _ _ _ _ _) (fun _ => LeO.refl _)) (LeO.refl _)) (LeO.refl _)) (LeO.refl _)
set_option maxHeartbeats 4000000 in
set_option maxRecDepth 100000 in
theorem taquinlaw22_few.calls (k : Nat) (a0_0 : Int) (a0_1 : Int) (a0_2 : Int) (A0_3 : Option Addr) (c0_3 : Nat) (l0_3 : List Int) (A0_4 : Option Addr) (c0_4 : Nat) (l0_4 : List Int) (a1_0 : Int) (A1_1 : Option Addr) (c1_1 : Nat) (l1_1 : List Int) (r : Bool) (w : World) (hr0_3 : Kd.C (Kd.int .i64) w A0_3 l0_3.length l0_3) (hc0_3 : l0_3.length ≤ c0_3) (hr0_4 : Kd.C (Kd.int .i64) w A0_4 l0_4.length l0_4) (hc0_4 : l0_4.length ≤ c0_4) (hr1_1 : Kd.C (Kd.int .i64) w A1_1 l1_1.length l1_1) (hc1_1 : l1_1.length ≤ c1_1) (h : taquinlaw22_few.f k a0_0 a0_1 a0_2 l0_3 l0_4 a1_0 l1_1 = some r) :
  Calls Tryz.prog 5 #[.agg #[.int .i64 a0_0, .int .i64 a0_1, .int .i64 a0_2, .slice A0_3 l0_3.length c0_3, .slice A0_4 l0_4.length c0_4], .agg #[.int .i64 a1_0, .slice A1_1 l1_1.length c1_1]] w fun e w' => e = .returned (.bool r) ∧ Below w.heap.size w w' := by
 have HS := Aside0.mk (((St.mk (Below.refl _ _) (show Cs w [] from trivial) (show Rs w [(A0_3, l0_3), (A0_4, l0_4), (A1_1, l1_1)] from ⟨hr0_3, hr0_4, hr1_1, trivial⟩)).new5 w.heap.size rfl (.int .i64 a0_0) (.int .i64 a0_1) (.int .i64 a0_2) (.slice A0_3 l0_3.length c0_3) (.slice A0_4 l0_4.length c0_4) 24).new2 (w.heap.size + 1) (by simp) (.int .i64 a1_0) (.slice A1_1 l1_1.length c1_1) 26)
 clear hr0_3 hr0_4 hr1_1
 unfold taquinlaw22_few.f at h
 by_cases h1 : (l0_3.length : Int) ≤ 40
 rotate_right
 ·rw [if_neg h1] at h
  obtain rfl : false = r := by simpa using h
  have b1 : decide ((l0_3.length : Int) ≤ 40) = false := decide_eq_false h1
  clear h h1
  go_enter Tryz.func5, Tryz.ntmps5
  go_wp2
  go_ret
  exact ⟨rfl, HS.out.bel⟩
 rw [if_pos h1] at h
 have b1 : decide ((l0_3.length : Int) ≤ 40) = true := decide_eq_true h1
 clear h1
 by_cases h2 : (l0_4.length : Int) ≤ 40
 rotate_right
 ·rw [if_neg h2] at h
  obtain rfl : false = r := by simpa using h
  have b2 : decide ((l0_4.length : Int) ≤ 40) = false := decide_eq_false h2
  clear h h2
  go_enter Tryz.func5, Tryz.ntmps5
  go_wp2
  go_ret
  exact ⟨rfl, HS.out.bel⟩
 rw [if_pos h2] at h
 have b2 : decide ((l0_4.length : Int) ≤ 40) = true := decide_eq_true h2
 clear h2
 by_cases h3 : (l1_1.length : Int) ≤ 10
 rotate_right
 ·rw [if_neg h3] at h
  obtain rfl : false = r := by simpa using h
  have b3 : decide ((l1_1.length : Int) ≤ 10) = false := decide_eq_false h3
  clear h h3
  go_enter Tryz.func5, Tryz.ntmps5
  go_wp2
  go_ret
  exact ⟨rfl, HS.out.bel⟩
 rw [if_pos h3] at h
 have b3 : decide ((l1_1.length : Int) ≤ 10) = true := decide_eq_true h3
 clear h3
 obtain ⟨t, ht, h⟩ := Option.bind_eq_some_iff.1 h
 obtain rfl : t = r := by simpa using h
 have HT := Aside0.mk ht
 clear h ht
 go_enter Tryz.func5, Tryz.ntmps5
 go_wp2_with fail
 (with_reducible refine (taquinref07_Right.calls k _ _ _ _ _ _ _ _ _ t _ HS.out.rows.g hc0_3 HS.out.rows.t.g hc0_4 HT.out).mono ?_)
 rintro e w1 ⟨rfl, hb⟩
 replace HS := Aside0.mk (HS.out.below hb)
 clear hb
 go_wp2
 go_ret
 exact ⟨rfl, HS.out.bel⟩
def strconv_Itoa.f (a0 : Int) : Option ByteArray := if -9223372036854775808 ≤ a0 then if a0 ≤ 9223372036854775807 then some ⟨(Lib.itoa a0).toArray⟩ else none else none
theorem strconv_Itoa.tells {a0 : Int} (h : WireMath.isInt a0) : strconv_Itoa.f a0 = some ⟨(Lib.itoa a0).toArray⟩ := by
 unfold strconv_Itoa.f
 rw [if_pos h.1, if_pos h.2]
theorem strconv_Itoa.calls (a0 : Int) (r : ByteArray) (w : World) (h : strconv_Itoa.f a0 = some r) (hT : Tabs w) :
  Calls Tryz.prog 54 #[.int .i64 a0] w fun e w' => e = .returned (.string r) ∧ Below w.heap.size w w' := by
 unfold strconv_Itoa.f at h
 split at h
 ·rename_i h0
  split at h
  ·rename_i h1
   obtain rfl := Option.some.inj h
   refine (Tryz.strconv_Itoa a0 h0 h1 w hT.1).mono ?_
   rintro e w' ⟨rfl, k, os, rfl⟩
   exact ⟨rfl, Lib.below_grow _ _ (Nat.le_refl _) _ _⟩
  ·cases h
 ·cases h
def wire_Int.f (a0 : Int) : Option (ByteArray) := (strconv_Itoa.f a0).bind fun t244 => (if t244.size + 1 ≤ 9223372036854775807 then (some (t244 ++ (⟨#[59]⟩ : ByteArray))) else (none))
set_option maxHeartbeats 8000000 in
set_option maxRecDepth 100000 in
theorem wire_Int.calls (a0 : Int) (r : ByteArray) (w : World) (h : wire_Int.f a0 = some r) (hT : Tabs w) :
  Calls Tryz.prog 39 #[.int .i64 a0] w fun e w' => e = .returned (.string r) ∧ Below w.heap.size w w' := by
 have HT := Aside0.mk hT
 clear hT
 have HB := Aside0.mk (Below.refl w.heap.size w)
 have H : ((strconv_Itoa.f a0).bind fun t244 => (if t244.size + 1 ≤ 9223372036854775807 then (some (t244 ++ (⟨#[59]⟩ : ByteArray))) else (none))) = some r := h
 clear h
 replace H := Option.bind_eq_some_iff.mp H
 obtain ⟨t244, A20, H⟩ := H
 try dsimp only at H
 have A2 := Aside0.mk A20
 clear A20
 by_cases c3 : t244.size + 1 ≤ 9223372036854775807
 ·rw [if_pos c3] at H
  have c3b0 := eq_true c3
  have c3b1 : decide (t244.size + 1 ≤ 9223372036854775807) = true := decide_eq_true c3
  try have c3b2 : (9223372036854775807 < t244.size + 1) = False := eq_false (Nat.not_lt.2 c3)
  obtain rfl := Option.some.inj H
  go_enter Tryz.func39, Tryz.ntmps39
  go_wp2_with (first | ((with_reducible refine gate_callee (f := 54) rfl ?_); refine goesL_ (some 4) rfl rfl Tryz.func54 (by kernel_rfl) rfl #[.int .i64 a0] rfl (by (try simp only [List.map_toArray, List.map_cons, List.map_nil]); first | done | rfl | (simp only [List.length_drop, List.length_take]; rfl)) ?_; (with_reducible refine (strconv_Itoa.calls a0 t244 _ A2.out (HT.out.below (by repeat (first | (with_reducible first | exact HB.out | apply below_alloc | apply pw_below_drewN | apply below_drew1) | exact HB.out)))).mono ?_); rintro e w4 ⟨rfl, hb⟩; refine ⟨_, rfl, ?_⟩; have n0_ := Aside0.mk (below_step (by repeat (first | (with_reducible first | exact HB.out | apply below_alloc | apply pw_below_drewN | apply below_drew1) | exact HB.out)) hb); clear HB; have HB := n0_; clear n0_; (try clear hb); (try clear hb2); (try clear hk); (try clear hi)))
  go_ret
  exact ⟨by first | rfl | (simp [errW_none, errW_some] <;> rfl) | (simp [*, errW_none, errW_some] <;> rfl), by repeat (first | (with_reducible first | exact HB.out | apply below_alloc | apply pw_below_drewN | apply below_drew1) | exact HB.out)⟩
 ·rw [if_neg c3] at H
  exact absurd H (by simp)
def wire_Nums.ok (l0 : List Int) : Bool := (l0.all fun x => decide (-9223372036854775808 ≤ x) && decide (x ≤ 9223372036854775807)) && decide ((WireMath.encNums l0).length ≤ 140737488355328)
def wire_Nums.f (l0 : List Int) : Option ByteArray := if wire_Nums.ok l0 = true then some ⟨(WireMath.encNums l0).toArray⟩ else none
theorem wire_Nums.int {x : Int} (h : WireMath.isInt x) : wire_Int.f x = some ⟨(WireMath.encInt x).toArray⟩ := by
 unfold wire_Int.f
 have hl := WireMath.itoa_length h
 rw [strconv_Itoa.tells h, Option.bind_some, if_pos (by show (Lib.itoa x).toArray.size + 1 ≤ _; simp; omega)]
 simp [WireMath.encInt, ByteArray.ext_iff]
theorem wire_Nums.oks {l0 : List Int} (h : wire_Nums.ok l0 = true) : (∀ x ∈ l0, WireMath.isInt x) ∧ (WireMath.encNums l0).length ≤ 140737488355328 := by
 unfold wire_Nums.ok at h
 simp only [Bool.and_eq_true, List.all_eq_true, decide_eq_true_eq] at h
 exact ⟨fun x hx => h.1 x hx, h.2⟩
def wire_Nums.acc (l : List Int) (k : Nat) : List UInt8 := Lib.itoa l.length ++ 91 :: ((l.take k).map WireMath.encInt).flatten
theorem wire_Nums.acc_snoc (l : List Int) (k : Nat) (h : k < l.length) : wire_Nums.acc l (k + 1) = wire_Nums.acc l k ++ WireMath.encInt l[k] := by
 unfold wire_Nums.acc
 rw [List.take_succ_eq_append_getElem h, List.map_append, List.flatten_append]
 simp only [List.map_cons, List.map_nil, List.flatten_cons, List.flatten_nil, List.append_nil, List.cons_append, List.append_assoc]
theorem wire_Nums.acc_end (l : List Int) : wire_Nums.acc l l.length ++ [93] = WireMath.encNums l := by
 unfold wire_Nums.acc WireMath.encNums
 simp
theorem wire_Nums.acc_le (l : List Int) (k : Nat) : (wire_Nums.acc l k).length ≤ (WireMath.encNums l).length := by
 rw [← wire_Nums.acc_end]
 unfold wire_Nums.acc
 have : ((l.take k).map WireMath.encInt).flatten.length ≤ (l.map WireMath.encInt).flatten.length := by
  conv => rhs; rw [← List.take_append_drop k l]
  rw [List.map_append, List.flatten_append, List.length_append]; omega
 simp only [List.length_append, List.length_cons, List.take_length]
 omega
set_option maxHeartbeats 4000000 in
set_option maxRecDepth 100000 in
theorem wire_Nums.list (A0 : Option Addr) (c0 : Nat) (l0 : List Int) (w : World) (hr0 : Kd.C (Kd.int .i64) w A0 l0.length l0) (hi : ∀ x ∈ l0, WireMath.isInt x) (hlen : (WireMath.encNums l0).length ≤ 140737488355328) (hT : Tabs w) :
  Calls Tryz.prog 55 #[.slice A0 l0.length c0, .func (.func 39) #[] #[]] w fun e w' => e = .returned (.string ⟨(WireMath.encNums l0).toArray⟩) ∧ Below w.heap.size w w' := by
 have HR := Aside0.mk (Kd.reads_of_C (d := (0 : Int)) hr0)
 have HT := Aside0.mk hT
 have HI := Aside0.mk hi
 have HL := Aside0.mk hlen
 clear hr0 hT hi hlen
 have hm : l0.length ≤ 9223372036854775807 := HR.out.2.1
 obtain ⟨t, ht⟩ : ∃ t : ByteArray, t = ⟨(Lib.itoa (l0.length : Int)).toArray⟩ := ⟨_, rfl⟩
 have hf : strconv_Itoa.f (l0.length : Int) = some t := by rw [ht]; exact strconv_Itoa.tells ⟨by omega, by omega⟩
 have hts : t.size + 1 ≤ 9223372036854775807 := by
  rw [ht]; have := WireMath.itoa_length (n := (l0.length : Int)) ⟨by omega, by omega⟩
  show (Lib.itoa (l0.length : Int)).toArray.size + 1 ≤ _
  simp; omega
 have HE0 : Aside0 (Lib.strCells (t ++ (⟨#[91]⟩ : ByteArray)) = Lib.byteCells (wire_Nums.acc l0 0)) := ⟨by
  rw [ht, ← Lib.strCells_toArray]; exact congrArg Lib.strCells (by apply ByteArray.ext; apply Array.ext'; simp [wire_Nums.acc])⟩
 have HS0 : Aside0 ((t ++ (⟨#[91]⟩ : ByteArray)).size ≤ 140737488355328) := ⟨by
  have h1 := HL.out; have h2 := wire_Nums.acc_le l0 0
  have h3 := congrArg List.length HE0.out
  rw [Lib.strCells_length, Lib.byteCells_length] at h3; omega⟩
 have HF := Aside0.mk hf
 clear hf ht
 go_enter Tryz.func55, Tryz.ntmps55
 go_wp2_with fail
 refine (strconv_Itoa.calls _ _ _ HF.out (HT.out.below (below_alloc (Below.refl _ _) _))).mono ?_
 rintro e w1 ⟨rfl, hb⟩
 have HB := Aside0.mk (below_step (below_alloc (Below.refl w.heap.size w) _) hb)
 have HI1 := Aside0.mk (isBuilder_below (Lib.fresh_isBuilder 89 5 w) hb)
 clear hb
 go_wp2_with fail
 refine (writeString w.heap.size w.heap.size [] _ _ HI1.out (by have := HS0.out; simp only [List.length_nil]; omega) HB.out.size).mono ?_
 rintro e w2 ⟨rfl, hi2, hb2⟩
 have HB2 := Aside0.mk (HB.out.trans hb2)
 have HI2 : Aside0 (Lib.IsBuilder 89 5 w.heap.size w.heap.size (Lib.byteCells (wire_Nums.acc l0 0)) w2) := ⟨by rw [List.nil_append, HE0.out] at hi2; exact hi2⟩
 clear hi2 hb2 HB HI1 HE0 HS0 HF hts
 go_wp2
 go_loopw [15] (fun v wr => ∃ k : Nat, k ≤ l0.length ∧ v = .int .i64 k ∧ Aside0 (Lib.IsBuilder 89 5 w.heap.size w.heap.size (Lib.byteCells (wire_Nums.acc l0 k)) wr) ∧ Aside0 (Below w.heap.size w wr)) (fun v _ => l0.length - (intOf v).toNat)
 case atStart => exact ⟨0, Nat.zero_le _, rfl, HI2, HB2⟩
 case round =>
  obtain ⟨k, hk, rfl, hI, hB⟩ := hrel
  by_cases hlt : k < l0.length
  ·obtain ⟨ad, e, hc⟩ := HR.out.2.2 (by omega)
   subst e
   have hck := (hB.out.cell (World.block_lt_of_cell? w _ (hc k hlt))).trans (hc k hlt)
   have hx := HI.out _ (List.getElem_mem hlt)
   have HX := Aside0.mk (wire_Nums.int hx)
   have HA := Aside0.mk (wire_Nums.acc_snoc l0 k hlt)
   have HL2 := Aside0.mk (Nat.le_trans (wire_Nums.acc_le l0 (k + 1)) HL.out)
   have hxe : l0.getD k 0 = l0[k] := by simp [List.getD, hlt]
   rw [hxe] at hck
   clear hc hx hxe
   go_wp2_with fail
   refine (wire_Int.calls _ _ _ HX.out (HT.out.below hB.out)).mono ?_
   rintro e w3 ⟨rfl, hb⟩
   have HB3 := Aside0.mk (below_step hB.out hb)
   have HI3 := Aside0.mk (isBuilder_below hI.out hb)
   clear hb
   go_wp2_with fail
   refine (writeString w.heap.size w.heap.size _ _ _ HI3.out ?_ HB3.out.size).mono ?_
   ·have := HL2.out; rw [HA.out, List.length_append] at this
    rw [Lib.byteCells_length]; show _ + (WireMath.encInt l0[k]).toArray.size ≤ _; simp; exact this
   rintro e w4 ⟨rfl, hi4, hb4⟩
   have HB4 := Aside0.mk (HB3.out.trans hb4)
   have HI4 : Aside0 (Lib.IsBuilder 89 5 w.heap.size w.heap.size (Lib.byteCells (wire_Nums.acc l0 (k + 1))) w4) := ⟨by
    rw [HA.out, Lib.byteCells_append, ← Lib.strCells_toArray (WireMath.encInt l0[k])]; exact hi4⟩
   clear hi4 hb4 HB3 HI3
   go_wp2
   go_roundw
   case rel => exact ⟨k + 1, by omega, by go_num, HI4, HB4⟩
   case measure => simp [intOf]; omega
  ·obtain rfl : k = l0.length := by omega
   have HX := Aside0.mk (wire_Nums.acc_end l0)
   obtain ⟨u, hu⟩ : ∃ u : ByteArray, u = ⟨(wire_Nums.acc l0 l0.length).toArray⟩ := ⟨_, rfl⟩
   have hus : u.size + 1 ≤ 9223372036854775807 := by
    rw [hu]; have h1 := HL.out; rw [← HX.out, List.length_append] at h1
    show (wire_Nums.acc l0 l0.length).toArray.size + 1 ≤ _
    simp at h1 ⊢; omega
   have HU : Aside0 (u ++ (⟨#[93]⟩ : ByteArray) = ⟨(WireMath.encNums l0).toArray⟩) := ⟨by
    rw [hu, ← HX.out]; apply ByteArray.ext; apply Array.ext'; simp⟩
   have HU0 := Aside0.mk hu
   clear hu HX
   go_wp2_with fail
   refine (Tryz.Builder_String_any w.heap.size w.heap.size _ _ hI.out hB.out.size).mono ?_
   rintro e w3 ⟨rfl, hb⟩
   have HB3 := Aside0.mk (hB.out.trans hb)
   clear hb
   rw [← HU0.out]
   go_wp2
   go_ret
   exact ⟨by rw [HU.out]; rfl, HB3.out⟩
set_option maxRecDepth 100000 in
theorem wire_Nums.calls (A0 : Option Addr) (c0 : Nat) (l0 : List Int) (r : ByteArray) (w : World) (hr0 : Kd.C (Kd.int .i64) w A0 l0.length l0) (hc0 : l0.length ≤ c0) (h : wire_Nums.f l0 = some r) (hT : Tabs w) :
  Calls Tryz.prog 40 #[.slice A0 l0.length c0] w fun e w' => e = .returned (.string r) ∧ Below w.heap.size w w' := by
 unfold wire_Nums.f at h
 split at h
 ·rename_i hok
  obtain ⟨hi, hl⟩ := wire_Nums.oks hok
  obtain rfl := Option.some.inj h
  have H := Aside0.mk (wire_Nums.list A0 c0 l0 w hr0 hi hl hT)
  clear h hok hi hl hr0 hT hc0
  go_enter Tryz.func40, Tryz.ntmps40
  go_wp2_with (go_at_call 55; refine H.out.mono ?_; rintro e w1 ⟨rfl, hb⟩; have HB1 := Aside0.mk hb; clear hb)
  go_ret
  exact ⟨rfl, HB1.out⟩
 ·cases h
def robot_Bytes.f (a0_0 : Int) (l0_1 : List Int) : Option (ByteArray) := (wire_Int.f a0_0).bind fun t258 => ((wire_Nums.f l0_1).bind fun t259 => (if t258.size + t259.size ≤ 9223372036854775807 then (some (t258 ++ t259)) else (none)))
set_option maxHeartbeats 4000000 in
set_option maxRecDepth 100000 in
theorem robot_Bytes.calls (a0_0 : Int) (A0_1 : Option Addr) (c0_1 : Nat) (l0_1 : List Int) (r : ByteArray) (w : World) (hr0_1 : Kd.C (Kd.int .i64) w A0_1 l0_1.length l0_1) (hc0_1 : l0_1.length ≤ c0_1) (h : robot_Bytes.f a0_0 l0_1 = some r) (hT : Tabs w) :
  Calls Tryz.prog 19 #[.agg #[.int .i64 a0_0, .slice A0_1 l0_1.length c0_1]] w fun e w' => e = .returned (.string r) ∧ Below w.heap.size w w' := by
 have HS := Aside0.mk ((St.mk (Below.refl _ _) (show Cs w [] from trivial) (show Rs w [(A0_1, l0_1)] from ⟨hr0_1, trivial⟩)).new2 w.heap.size rfl (.int .i64 a0_0) (.slice A0_1 l0_1.length c0_1) 26)
 have HT := Aside0.mk hT
 clear hT
 clear hr0_1
 unfold robot_Bytes.f at h
 obtain ⟨s1, h1, h⟩ := Option.bind_eq_some_iff.1 h
 obtain ⟨s2, h2, h⟩ := Option.bind_eq_some_iff.1 h
 split at h
 rotate_left
 ·cases h
 rename_i hs
 have hs2 : (9223372036854775807 < s1.size + s2.size) = False := eq_false (Nat.not_lt.2 hs)
 have hs3 : decide (s1.size + s2.size ≤ 9223372036854775807) = true := decide_eq_true hs
 clear hs
 obtain rfl := Option.some.inj h
 have HX := Aside0.mk (And.intro h1 h2)
 clear h h1 h2
 go_enter Tryz.func19, Tryz.ntmps19
 go_wp2_with fail
 generalize hW : w.alloc _ = w1 at HS ⊢
 clear hW
 obtain ⟨I, hI, hb, hc, hr, hl⟩ : ∃ I : World → Prop, I w1 ∧ (∀ u v, I u → Below u.heap.size u v → I v) ∧ (∀ u, I u → Cs u [(⟨w.heap.size, 0, none⟩, .int .i64 a0_0), (⟨w.heap.size, 1, none⟩, .slice A0_1 l0_1.length c0_1)]) ∧ (∀ u, I u → Rs u [(A0_1, l0_1)]) ∧ (∀ u, I u → Below w.heap.size w u) :=
  ⟨fun u => St w u [(⟨w.heap.size, 0, none⟩, .int .i64 a0_0), (⟨w.heap.size, 1, none⟩, .slice A0_1 l0_1.length c0_1)] [(A0_1, l0_1)], HS.out, fun _ _ h hb => h.below hb, fun _ h => h.cells, fun _ h => h.rows, fun _ h => h.bel⟩
 have IB := Aside0.mk hb
 have HC := Aside0.mk hc
 have HR := Aside0.mk hr
 have HL := Aside0.mk hl
 clear hb hc hr hl HS
 have toS : Aside0 (∀ w', I w' → (fun w' => w'.cell? ⟨w.heap.size, 0, none⟩ = some (.int .i64 a0_0) ∧ w'.cell? ⟨w.heap.size, 1, none⟩ = some (.slice A0_1 l0_1.length c0_1) ∧ I w') w') := ⟨fun w' h => ⟨(HC.out w' h).1, (HC.out w' h).2.1, h⟩⟩
 have hS := toS.out _ (IB.out _ _ hI (below_drew (Below.refl _ _)))
 clear hI
 go_region_held3 (fun w' => w'.cell? ⟨w.heap.size, 0, none⟩ = some (.int .i64 a0_0) ∧ w'.cell? ⟨w.heap.size, 1, none⟩ = some (.slice A0_1 l0_1.length c0_1) ∧ I w') (first | assumption | exact toS.out _ HI) (first
  | (go_split_ands; go_at_call 39; (with_reducible refine (wire_Int.calls a0_0 s1 _ HX.out.1 ?c4).mono ?_); (case c4 => exact HT.out.below (HL.out _ (by assumption))); rintro e w6 ⟨rfl, hb⟩; have HI := IB.out _ _ (by assumption) hb; clear hb)
  | (go_split_ands; go_at_call 40; (with_reducible refine (wire_Nums.calls _ _ l0_1 s2 _ ?c1 hc0_1 HX.out.2 ?c4).mono ?_); (case c1 => exact (HR.out _ (by assumption)).1); (case c4 => exact HT.out.below (HL.out _ (by assumption))); rintro e w6 ⟨rfl, hb⟩; have HI := IB.out _ _ (by assumption) hb; clear hb))
 go_wp2
 go_ret
 exact ⟨rfl, HL.out _ HI⟩
def IsS61 (w0 W : World) (g : Nat) (f0 : ByteArray) (f1 : Bool) : Prop := W.heap[g]? = some (.cells #[.string f0, .bool f1] 61 (0, 0)) ∧ w0.heap.size ≤ g
theorem IsS61.grown {w0 W : World} {g : Nat} {f0 : ByteArray} {f1 : Bool} {W1 : World} {row : Option Nat} (h : IsS61 w0 W g f0 f1) (hw : W.grownBy W1 row) (hne : some g ≠ row) : IsS61 w0 W1 g f0 f1 := by
 obtain ⟨hb, hg⟩ := h
 exact ⟨blk_grown hb hw hne, hg⟩
theorem IsS61.kept {w0 W : World} {g : Nat} {f0 : ByteArray} {f1 : Bool} {W1 : World} {S : Nat → Prop} (h : IsS61 w0 W g f0 f1) (hk : Kept W W1 S) (hne : ¬ S g) : IsS61 w0 W1 g f0 f1 := by
 obtain ⟨hb, hg⟩ := h
 exact ⟨blk_kept hb hk hne, hg⟩
theorem IsS61.below {w0 W : World} {g : Nat} {f0 : ByteArray} {f1 : Bool} {W1 : World} (h : IsS61 w0 W g f0 f1) (hw : Below W.heap.size W W1) : IsS61 w0 W1 g f0 f1 := h.grown (grown_of_below hw none) (by simp)
theorem IsS61.alloc {w0 W : World} {g : Nat} {f0 : ByteArray} {f1 : Bool} (h : IsS61 w0 W g f0 f1) (o : Obj) : IsS61 w0 (W.alloc o) g f0 f1 := h.below (below_alloc (Below.refl _ _) o)
theorem IsS61.drewN {w0 W : World} {g : Nat} {f0 : ByteArray} {f1 : Bool} (h : IsS61 w0 W g f0 f1) (m : Nat) : IsS61 w0 (W.drewN m) g f0 f1 := h
theorem IsS61.drew {w0 W : World} {g : Nat} {f0 : ByteArray} {f1 : Bool} (h : IsS61 w0 W g f0 f1) : IsS61 w0 W.drew g f0 f1 := h
theorem IsS61.at_ {w0 W : World} {g : Nat} {f0 : ByteArray} {f1 : Bool} {w' : World} {m : Nat} (hq : W.drewN m = w') (h : IsS61 w0 W g f0 f1) : IsS61 w0 w' g f0 f1 := by subst hq; exact IsS61.drewN h m
theorem IsS61.apart {w0 W : World} {g : Nat} {f0 : ByteArray} {f1 : Bool} {α : Type} {d : Kd α} {e : Nat} {base : Nat} {ok : Nat → Prop} {v : Value} {xs : List α} (h : IsS61 w0 W g f0 f1) (ho : d.R e W base ok v xs) (ht : ∀ q, q ∈ e :: d.E → q ≠ 61) : d.R e W base (fun k => ok k ∧ k ≠ g) v xs := by
 obtain ⟨hb, hg⟩ := h
 exact Kd.R_types ho hb ht
theorem IsS61.own_ne {w0 W : World} {g : Nat} {f0 : ByteArray} {f1 : Bool} {α : Type} {d : Kd α} {e : Nat} {base : Nat} {ok : Nat → Prop} {v : Value} {xs : List α} (h : IsS61 w0 W g f0 f1) (ho : d.R e W base ok v xs) (ht : e ≠ 61) : some g ≠ v.ownBlock := by
 obtain ⟨hb, hg⟩ := h
 exact Kd.R_ne ho hb ht
theorem IsS61.lt {w0 W : World} {g : Nat} {f0 : ByteArray} {f1 : Bool} (h : IsS61 w0 W g f0 f1) : g < W.heap.size := by
 obtain ⟨hb, hg⟩ := h
 exact blk_lt hb
theorem IsS61.ge {w0 W : World} {g : Nat} {f0 : ByteArray} {f1 : Bool} (h : IsS61 w0 W g f0 f1) : w0.heap.size ≤ g := by
 obtain ⟨hb, hg⟩ := h
 exact hg
theorem IsS61.ne_blk {w0 W : World} {g : Nat} {f0 : ByteArray} {f1 : Bool} {a : Nat} {cs : Array Value} {t : TypeId} {fr : Nat × Nat} (h : IsS61 w0 W g f0 f1) (hb2 : W.heap[a]? = some (.cells cs t fr)) (ht : t ≠ 61) : g ≠ a := by
 obtain ⟨hb, hg⟩ := h
 rintro rfl
 rw [hb] at hb2
 injection hb2 with hb2
 injection hb2 with _ ht2
 exact ht ht2.symm
theorem IsS61.far {w0 W : World} {g : Nat} {f0 : ByteArray} {f1 : Bool} {p : Addr} (h : IsS61 w0 W g f0 f1) (hne : g ≠ p.block) (u : Value) : IsS61 w0 (W.setCell p u) g f0 f1 := by
 obtain ⟨hb, hg⟩ := h
 exact ⟨blk_far hb hne u, hg⟩
theorem cellS61_0 {W : World} {g : Nat} {f0 : ByteArray} {f1 : Bool} (h : W.heap[g]? = some (.cells #[.string f0, .bool f1] 61 (0, 0))) : W.cell? ⟨g, 0, none⟩ = some (.string f0) := (blk_cell h 0).trans rfl
theorem IsS61.set_0 {w0 W : World} {g : Nat} {f0 : ByteArray} {f1 : Bool} (h : IsS61 w0 W g f0 f1) (x : ByteArray) : IsS61 w0 (W.setCell ⟨g, 0, none⟩ (.string x)) g x f1 := by
 obtain ⟨hb, hg⟩ := h
 exact ⟨by simpa using blk_set hb 0 (.string x), hg⟩
theorem cellS61_1 {W : World} {g : Nat} {f0 : ByteArray} {f1 : Bool} (h : W.heap[g]? = some (.cells #[.string f0, .bool f1] 61 (0, 0))) : W.cell? ⟨g, 1, none⟩ = some (.bool f1) := (blk_cell h 1).trans rfl
theorem IsS61.set_1 {w0 W : World} {g : Nat} {f0 : ByteArray} {f1 : Bool} (h : IsS61 w0 W g f0 f1) (x : Bool) : IsS61 w0 (W.setCell ⟨g, 1, none⟩ (.bool x)) g f0 x := by
 obtain ⟨hb, hg⟩ := h
 exact ⟨by simpa using blk_set hb 1 (.bool x), hg⟩
def wire_Open.f (a0 : ByteArray) : Option (ByteArray × Bool) := some (a0, false)
set_option maxHeartbeats 8000000 in
set_option maxRecDepth 100000 in
theorem wire_Open.calls (a0 : ByteArray) (r1 : ByteArray) (r2 : Bool) (w0 w : World) (hB : Below w0.heap.size w0 w) (h : wire_Open.f a0 = some (r1, r2)) :
  Calls Tryz.prog 25 #[.string a0] w fun e w' => ∃ g_ : Nat, e = .returned (.pointer (some ⟨g_, 0, none⟩)) ∧ IsS61 w0 w' g_ r1 r2 ∧ Below w0.heap.size w0 w' ∧ Below w.heap.size w w' := by
 have hu61 := Tryz.underlying61
 have HBW := Aside0.mk (Below.refl w.heap.size w)
 have HW0 := Aside0.mk hB.size
 have HB := Aside0.mk hB
 clear hB
 have H : (some (a0, false)) = some (r1, r2) := h
 clear h
 simp only [Option.some.injEq, Prod.mk.injEq] at H
 obtain ⟨rfl, rfl⟩ := H
 go_enter Tryz.func25, Tryz.ntmps25
 go_wp2_with (first | ((with_reducible refine gate_dst (N := 5) rfl ?_); refine box_event ?hg (N := 5) ?hd (cs := #[.string a0, .bool false]) (t := 61) ?hr ?_; (case hd => rfl); (case hg => rfl); (case hr => first | (go_simp; done) | (go_simp; rfl)); intro gb245 hg w2 hbox hb; replace HB := Aside0.mk (below_step HB.out hb); have BK245 := Aside0.mk (hbox); have GW245 := Aside0.mk ((by rw [hg]; exact (below_size HBW.out) : w.heap.size ≤ gb245)); have GE245 := Aside0.mk ((Nat.le_trans HW0.out (by rw [hg]; exact (below_size HBW.out) : w.heap.size ≤ gb245) : w0.heap.size ≤ gb245)); replace HBW := Aside0.mk (below_step HBW.out hb); clear hb hbox hg))
 go_ret
 exact ⟨_, rfl, (show IsS61 w0 _ gb245 a0 false from ⟨by (with_reducible repeat (first | refine blk_drewN ?_ _ | refine blk_drew ?_ | refine blk_alloc ?_ _)); exact BK245.out, GE245.out⟩), HB.out, HBW.out⟩
def wire_Reader_fail.f (s0_0 : ByteArray) (s0_1 : Bool) : Option (ByteArray × Bool) := some ((⟨#[]⟩ : ByteArray), true)
set_option maxHeartbeats 8000000 in
set_option maxRecDepth 100000 in
theorem wire_Reader_fail.calls (g : Nat) (s0_0 : ByteArray) (s0_1 : Bool) (r1 : ByteArray) (r2 : Bool) (w0 w : World) (hI : IsS61 w0 w g s0_0 s0_1) (hB : Below w0.heap.size w0 w) (h : wire_Reader_fail.f s0_0 s0_1 = some (r1, r2)) :
  Calls Tryz.prog 59 #[.pointer (some ⟨g, 0, none⟩)] w fun e w' => e = .returned (.tuple #[]) ∧ IsS61 w0 w' g r1 r2 ∧ Below w0.heap.size w0 w' ∧ KeepBut w w' g none := by
 have HI0 := Aside0.mk hI
 have HK := Aside0.mk (KeepBut.refl w g none)
 have HL := Aside0.mk hB.size
 clear hI
 have HW0 := Aside0.mk hB.size
 have HB := Aside0.mk hB
 clear hB
 have H : (some ((⟨#[]⟩ : ByteArray), true)) = some (r1, r2) := h
 clear h
 simp only [Option.some.injEq, Prod.mk.injEq] at H
 obtain ⟨rfl, rfl⟩ := H
 obtain ⟨HGz2, hgz2⟩ := HI0.out
 have hcz2_0 := cellS61_0 HGz2
 have hcz2_1 := cellS61_1 HGz2
 have hfz2_0 := blk_frozen HGz2 0
 have hfz2_1 := blk_frozen HGz2 1
 clear HGz2 hgz2
 go_enter Tryz.func59, Tryz.ntmps59
 go_wp2
 first | go_end0 | ((try simp only [Exit.inBlock, Exit.then]); refine bodyPost_ret (results_none rfl _ _ _) rfl ?_)
 exact ⟨by first | rfl | (simp [errW_none, errW_some] <;> rfl) | (simp [*, errW_none, errW_some] <;> rfl), by repeat (first | (with_reducible first | exact HI0.out | apply IsS61.alloc | apply IsS61.drewN | apply IsS61.drew | apply IsS61.set_0 | apply IsS61.set_1) | exact HI0.out), by repeat (first | (with_reducible first | exact HB.out | apply below_alloc | apply pw_below_drewN | apply below_drew1 | refine below_set ?_ (IsS61.ge HI0.out)) | exact HB.out), by repeat (first | (with_reducible first | exact HK.out | apply KeepBut.set_ | apply keep_drewN | apply keep_drew | apply keep_alloc) | exact HK.out)⟩
def wire_Reader_number.rd (s : ByteArray) (b : Bool) : WireMath.Rd := (s.data.toList, b)
def wire_Reader_number.f (s0_0 : ByteArray) (s0_1 : Bool) (a1 : Int) (a2 : Int) : Option (Int × ByteArray × Bool) :=
 if 57 < a1 ∧ a1 ≤ 255 then some ((WireMath.number a1.toNat.toUInt8 a2 (wire_Reader_number.rd s0_0 s0_1)).1, ⟨(WireMath.number a1.toNat.toUInt8 a2 (wire_Reader_number.rd s0_0 s0_1)).2.1.toArray⟩, (WireMath.number a1.toNat.toUInt8 a2 (wire_Reader_number.rd s0_0 s0_1)).2.2) else none
theorem wire_Reader_number.head (s : ByteArray) : ∃ H : ByteArray, H.data.toList = s.data.toList.take 21 ∧ H.size ≤ 21 ∧ (s = H ∧ s.size ≤ 21 ∨ H = s.extract 0 21 ∧ 21 < s.size) := by
 have hl : s.data.toList.length = s.size := by rw [Array.length_toList]; rfl
 rcases Nat.lt_or_ge 21 s.size with h | h
 ·refine ⟨s.extract 0 21, ?_, ?_, .inr ⟨rfl, h⟩⟩
  ·rw [ByteArray.data_extract]; simp
  ·rw [ByteArray.size_extract]; omega
 ·exact ⟨s, by rw [List.take_of_length_le (by omega)], h, .inl ⟨rfl, h⟩⟩
theorem wire_Reader_number.front (s H : ByteArray) (n : Nat) (hl : H.data.toList = s.data.toList.take 21) : (H.extract 0 n).data.toList = (s.data.toList.take 21).take n := by
 rw [← hl, ByteArray.data_extract]; simp
theorem wire_Reader_number.keepd {w W : World} {g n : Nat} (h : KeepBut (w.drewN n) W g none) : KeepBut w W g none := (keep_drewN (KeepBut.refl w g none) n).trans h (.inl rfl)
set_option maxHeartbeats 4000000 in
set_option maxRecDepth 100000 in
theorem wire_Reader_number.none_ (g : Nat) (s : ByteArray) (b : Bool) (a1 a2 : Int) (w0 w : World) (hI : IsS61 w0 w g s b) (hB : Below w0.heap.size w0 w) (hi : Lib.indexByte (s.data.toList.take 21) a1.toNat.toUInt8 = -1) :
  Calls Tryz.prog 45 #[.pointer (some ⟨g, 0, none⟩), .int .u8 a1, .int .i64 a2] w fun e w' => e = .returned (.int .i64 0) ∧ IsS61 w0 w' g ⟨#[]⟩ true ∧ Below w0.heap.size w0 w' ∧ KeepBut w w' g none := by
 obtain ⟨H, hl, hH1, hc⟩ := wire_Reader_number.head s
 rw [← hl] at hi
 have HI := Aside0.mk hI
 have HB := Aside0.mk hB
 have HX := Aside0.mk hi
 obtain ⟨hb, _⟩ := HI.out
 have hc0 := cellS61_0 hb
 clear hI hB hi hb hl
 rcases hc with ⟨rfl, hs⟩ | ⟨rfl, hs⟩
 all_goals
  go_enter Tryz.func45, Tryz.ntmps45
  go_wp2
  go_quiet (fail)
  go_wp2_with fail
  refine (Tryz.strings_IndexByte _ _ _).mono ?_
  rintro e w' ⟨rfl, rfl⟩
  rw [HX.out]
  go_wp2_with (go_at_call 59; refine (wire_Reader_fail.calls g _ _ _ _ w0 _ (IsS61.drewN HI.out _) (pw_below_drewN HB.out _) rfl).mono ?_; rintro e w3 ⟨rfl, hi3, hb3, hk3⟩; have HE := Aside0.mk (And.intro hi3 (And.intro hb3 (wire_Reader_number.keepd hk3))); clear hi3 hb3 hk3)
  go_ret
  exact ⟨rfl, HE.out⟩
set_option maxHeartbeats 4000000 in
set_option maxRecDepth 100000 in
theorem wire_Reader_number.bad (g : Nat) (s : ByteArray) (b : Bool) (a1 a2 : Int) (w0 w : World) (hI : IsS61 w0 w g s b) (hB : Below w0.heap.size w0 w) (hT : Tabs w0) (n : Nat) (hi : Lib.indexByte (s.data.toList.take 21) a1.toNat.toUInt8 = (n : Int)) (hn : n ≤ 20) (hns : n < s.size)
  (hat : ∀ v, Lib.atoiAll ((s.data.toList.take 21).take n) ≠ .ok v) :
  Calls Tryz.prog 45 #[.pointer (some ⟨g, 0, none⟩), .int .u8 a1, .int .i64 a2] w fun e w' => e = .returned (.int .i64 0) ∧ IsS61 w0 w' g ⟨#[]⟩ true ∧ Below w0.heap.size w0 w' ∧ KeepBut w w' g none := by
 obtain ⟨H, hl, hH1, hc⟩ := wire_Reader_number.head s
 rw [← hl] at hi
 have HF : Aside0 (∀ W : World, Below w0.heap.size w0 W → Calls Tryz.prog 60 #[.string (H.extract 0 n)] W fun e w' => ∃ (z : Int) (T : TypeId) (p : Value), e = .returned (.tuple #[.int .i64 z, .iface T p]) ∧ Below W.heap.size W w') := ⟨fun W hW => by
  have hsz : (H.extract 0 n).size ≤ 281474976710656 := by rw [ByteArray.size_extract]; omega
  have hfr := wire_Reader_number.front s H n hl
  obtain ⟨_, ⟨t2, p2, h2⟩, t3, p3, h3⟩ := hT.below hW
  cases hr : Lib.atoiAll ((s.data.toList.take 21).take n) with
  | ok v => exact absurd hr (hat v)
  | range =>
   refine (Tryz.strconv_Atoi_range_var _ hsz (by rw [hfr]; exact hr) t3 p3 W h3).mono ?_
   rintro e w' ⟨N, rfl, _, _, hb⟩
   exact ⟨_, _, _, rfl, hb⟩
  | _ =>
   refine (Tryz.strconv_Atoi_syntax_var _ hsz (by rw [hfr]; exact hr) t2 p2 W h2).mono ?_
   rintro e w' ⟨N, rfl, _, _, hb⟩
   exact ⟨_, _, _, rfl, hb⟩⟩
 have HI := Aside0.mk hI
 have HB := Aside0.mk hB
 have HX := Aside0.mk hi
 obtain ⟨hb, _⟩ := HI.out
 have hc0 := cellS61_0 hb
 have hnH : n ≤ H.size := by
  rcases hc with ⟨rfl, hs⟩ | ⟨rfl, hs⟩
  ·omega
  ·rw [ByteArray.size_extract]; omega
 clear hI hB hi hb hl hat hT
 rcases hc with ⟨rfl, hs⟩ | ⟨rfl, hs⟩
 all_goals
  go_enter Tryz.func45, Tryz.ntmps45
  go_wp2
  go_quiet (fail)
  go_wp2_with fail
  refine (Tryz.strings_IndexByte _ _ _).mono ?_
  rintro e w' ⟨rfl, rfl⟩
  rw [HX.out]
  go_wp2_with fail
  refine (HF.out _ (pw_below_drewN HB.out _)).mono ?_
  rintro e w2 ⟨z, T, p, rfl, hb2⟩
  have HI2 := Aside0.mk (IsS61.below (IsS61.drewN HI.out _) hb2)
  have HB2 := Aside0.mk (below_step (pw_below_drewN HB.out _) hb2)
  have HK2 := Aside0.mk (KeepBut.trans (keep_drewN (KeepBut.refl w g none) _) (KeepBut.of_below hb2 g none) (.inl rfl))
  clear hb2
  go_wp2
  go_quiet (fail)
  go_wp2_with (go_at_call 59; refine (wire_Reader_fail.calls g _ _ _ _ w0 _ (IsS61.drewN HI2.out _) (pw_below_drewN HB2.out _) rfl).mono ?_; rintro e w3 ⟨rfl, hi3, hb3, hk3⟩; have HE := Aside0.mk (And.intro hi3 (And.intro hb3 (HK2.out.trans (wire_Reader_number.keepd hk3) (.inl rfl)))); clear hi3 hb3 hk3)
  go_ret
  exact ⟨rfl, HE.out⟩
def wire_Reader_number.St (w0 w : World) (g : Nat) (s : ByteArray) (b : Bool) (W : World) : Prop := IsS61 w0 W g s b ∧ Below w0.heap.size w0 W ∧ KeepBut w W g none
theorem wire_Reader_number.St.drew {w0 w : World} {g : Nat} {s : ByteArray} {b : Bool} {W : World} (h : wire_Reader_number.St w0 w g s b W) : wire_Reader_number.St w0 w g s b W.drew := ⟨IsS61.drew h.1, below_drew h.2.1, keep_drew h.2.2⟩
theorem wire_Reader_number.St.drewN {w0 w : World} {g : Nat} {s : ByteArray} {b : Bool} {W : World} (h : wire_Reader_number.St w0 w g s b W) (n : Nat) : wire_Reader_number.St w0 w g s b (W.drewN n) := ⟨IsS61.drewN h.1 n, pw_below_drewN h.2.1 n, keep_drewN h.2.2 n⟩
theorem wire_Reader_number.St.on {w0 w : World} {g : Nat} {s : ByteArray} {b : Bool} {W W1 : World} (h : wire_Reader_number.St w0 w g s b W) (hb : Below W.heap.size W W1) : wire_Reader_number.St w0 w g s b W1 := ⟨IsS61.below h.1 hb, below_step h.2.1 hb, h.2.2.trans (KeepBut.of_below hb g none) (.inl rfl)⟩
theorem wire_Reader_number.St.b {w0 w : World} {g : Nat} {s : ByteArray} {b : Bool} {W : World} (h : wire_Reader_number.St w0 w g s b W) : Below w0.heap.size w0 W := h.2.1
set_option maxHeartbeats 4000000 in
set_option maxRecDepth 100000 in
theorem wire_Reader_number.good (g : Nat) (s : ByteArray) (b : Bool) (a1 a2 : Int) (w0 w : World) (hI : IsS61 w0 w g s b) (hB : Below w0.heap.size w0 w) (hT : Tabs w0) (n : Nat) (hi : Lib.indexByte (s.data.toList.take 21) a1.toNat.toUInt8 = (n : Int)) (hn : n ≤ 20) (hns : n < s.size)
  (v : Int) (hv : WireMath.isInt v) (hat : Lib.atoiAll ((s.data.toList.take 21).take n) = .ok v) (c d : Bool) (hc : c = decide (Lib.itoa v = (s.data.toList.take 21).take n)) (hd : d = decide (v < a2)) :
  Calls Tryz.prog 45 #[.pointer (some ⟨g, 0, none⟩), .int .u8 a1, .int .i64 a2] w fun e w' => e = .returned (.int .i64 (if c && !d then v else 0)) ∧ IsS61 w0 w' g (if c && !d then s.extract (n + 1) s.size else ⟨#[]⟩) (if c && !d then b else true) ∧ Below w0.heap.size w0 w' ∧ KeepBut w w' g none := by
 obtain ⟨H, hl, hH1, hcs⟩ := wire_Reader_number.head s
 have hfr := wire_Reader_number.front s H n hl
 rw [← hl] at hi
 obtain ⟨t, ht⟩ : ∃ t : ByteArray, t = ⟨(Lib.itoa v).toArray⟩ := ⟨_, rfl⟩
 have HF : Aside0 (∀ W : World, Calls Tryz.prog 60 #[.string (H.extract 0 n)] W fun e w' => e = .returned (.tuple #[.int .i64 v, .nilIface]) ∧ Below W.heap.size W w') := ⟨fun W => by
  refine (Tryz.strconv_Atoi_ok _ (by rw [ByteArray.size_extract]; omega) v (by rw [hfr]; exact hat) W).mono ?_
  rintro e w' ⟨rfl, hw⟩
  refine ⟨rfl, ?_⟩
  rcases hw with rfl | ⟨t, rfl⟩
  ·exact Below.refl _ _
  ·exact Lib.bytesWorld_below _ _ _⟩
 have HG : Aside0 (strconv_Itoa.f v = some t) := ⟨by rw [ht]; exact strconv_Itoa.tells hv⟩
 have hcmp : (t.toList == (H.extract 0 n).toList) = c := by
  rw [hc, ht, ByteArray.toList_eq, ByteArray.toList_eq, hfr, Bool.eq_iff_iff]; simp
 have hcmp2 : (t.toList != (H.extract 0 n).toList) = !c := by rw [bne, hcmp]
 have hdec : decide (v < a2) = d := hd.symm
 have HI := Aside0.mk (show wire_Reader_number.St w0 w g s b w from ⟨hI, hB, KeepBut.refl w g none⟩)
 have HT := Aside0.mk hT
 have HX := Aside0.mk hi
 obtain ⟨hb, _⟩ := hI
 have hc0 := cellS61_0 hb
 have hfz := blk_frozen hb 0
 have hnH : n ≤ H.size := by
  rcases hcs with ⟨rfl, hs⟩ | ⟨rfl, hs⟩
  ·omega
  ·rw [ByteArray.size_extract]; omega
 clear hB hi hb hl hat hT hfr ht hc hd
 rcases hcs with ⟨rfl, hs⟩ | ⟨he, hs⟩
 ·skip
  cases c
  ·skip
   go_enter Tryz.func45, Tryz.ntmps45
   go_wp2
   go_quiet (fail)
   go_wp2_with fail
   refine (Tryz.strings_IndexByte _ _ _).mono ?_
   rintro e w' ⟨rfl, rfl⟩
   rw [HX.out]
   go_wp2_with fail
   refine (HF.out _).mono ?_
   rintro e w2 ⟨rfl, hb2⟩
   have HI2 := Aside0.mk ((HI.out.drewN _).on hb2)
   clear hb2
   go_wp2
   first | (go_region_with (go_at_call 54; refine (strconv_Itoa.calls v t _ HG.out (HT.out.below HI2.out.drew.2.1)).mono ?_; rintro e w3 ⟨rfl, hb3⟩; have HI3 := Aside0.mk (HI2.out.drew.on hb3); clear hb3)) | fail
   all_goals
    go_wp2_with (go_at_call 59; refine (wire_Reader_fail.calls g _ _ _ _ w0 _ HI3.out.1 HI3.out.2.1 rfl).mono ?_; rintro e w4 ⟨rfl, hi4, hb4, hk4⟩; have HE4 := Aside0.mk (And.intro hi4 (And.intro hb4 (HI3.out.2.2.trans hk4 (.inl rfl)))); clear hi4 hb4 hk4)
    go_ret
    exact ⟨rfl, HE4.out⟩
  ·cases d
   ·skip
    go_enter Tryz.func45, Tryz.ntmps45
    go_wp2
    go_quiet (fail)
    go_wp2_with fail
    refine (Tryz.strings_IndexByte _ _ _).mono ?_
    rintro e w' ⟨rfl, rfl⟩
    rw [HX.out]
    go_wp2_with fail
    refine (HF.out _).mono ?_
    rintro e w2 ⟨rfl, hb2⟩
    have HI2 := Aside0.mk ((HI.out.drewN _).on hb2)
    clear hb2
    go_wp2
    first | (go_region_held3 (wire_Reader_number.St w0 w g s b) (first | exact HI2.out.drew | exact HI3.out | assumption) (first | (go_at_call 54; refine (strconv_Itoa.calls v t _ HG.out (HT.out.below (wire_Reader_number.St.b (w := w) (g := g) (s := s) (b := b) (by assumption)))).mono ?_; rintro e w3 ⟨rfl, hb3⟩; have HI3 := Aside0.mk (wire_Reader_number.St.on (w0 := w0) (w := w) (g := g) (s := s) (b := b) (by assumption) hb3); clear hb3))) | fail
    all_goals
     obtain ⟨hb3, _⟩ := HI3.out.1
     have hc3 := cellS61_0 hb3
     have hf3 := blk_frozen hb3 0
     have hn1 : (0 : Int) ≤ (n : Int) + 1 := by omega
     have hn2 : (n : Int) + 1 ≤ (s.size : Int) := by omega
     clear hb3
     go_wp2
     go_ret
     exact ⟨rfl, IsS61.set_0 HI3.out.1 _, below_set HI3.out.2.1 (IsS61.ge HI3.out.1), KeepBut.set_ HI3.out.2.2 _ _⟩
   ·skip
    go_enter Tryz.func45, Tryz.ntmps45
    go_wp2
    go_quiet (fail)
    go_wp2_with fail
    refine (Tryz.strings_IndexByte _ _ _).mono ?_
    rintro e w' ⟨rfl, rfl⟩
    rw [HX.out]
    go_wp2_with fail
    refine (HF.out _).mono ?_
    rintro e w2 ⟨rfl, hb2⟩
    have HI2 := Aside0.mk ((HI.out.drewN _).on hb2)
    clear hb2
    go_wp2
    first | (go_region_held3 (wire_Reader_number.St w0 w g s b) (first | exact HI2.out.drew | exact HI3.out | assumption) (first | (go_at_call 54; refine (strconv_Itoa.calls v t _ HG.out (HT.out.below (wire_Reader_number.St.b (w := w) (g := g) (s := s) (b := b) (by assumption)))).mono ?_; rintro e w3 ⟨rfl, hb3⟩; have HI3 := Aside0.mk (wire_Reader_number.St.on (w0 := w0) (w := w) (g := g) (s := s) (b := b) (by assumption) hb3); clear hb3))) | fail
    all_goals
     go_wp2_with (go_at_call 59; refine (wire_Reader_fail.calls g _ _ _ _ w0 _ HI3.out.1 HI3.out.2.1 rfl).mono ?_; rintro e w4 ⟨rfl, hi4, hb4, hk4⟩; have HE4 := Aside0.mk (And.intro hi4 (And.intro hb4 (HI3.out.2.2.trans hk4 (.inl rfl)))); clear hi4 hb4 hk4)
     go_ret
     exact ⟨rfl, HE4.out⟩
 ·have HE := Aside0.mk he
  clear he
  cases c
  ·skip
   go_enter Tryz.func45, Tryz.ntmps45
   go_wp2
   go_quiet (fail)
   rw [← HE.out]
   go_wp2_with fail
   refine (Tryz.strings_IndexByte _ _ _).mono ?_
   rintro e w' ⟨rfl, rfl⟩
   rw [HX.out]
   go_wp2_with fail
   refine (HF.out _).mono ?_
   rintro e w2 ⟨rfl, hb2⟩
   have HI2 := Aside0.mk ((HI.out.drewN _).on hb2)
   clear hb2
   go_wp2
   first | (go_region_with (go_at_call 54; refine (strconv_Itoa.calls v t _ HG.out (HT.out.below HI2.out.drew.2.1)).mono ?_; rintro e w3 ⟨rfl, hb3⟩; have HI3 := Aside0.mk (HI2.out.drew.on hb3); clear hb3)) | fail
   all_goals
    go_wp2_with (go_at_call 59; refine (wire_Reader_fail.calls g _ _ _ _ w0 _ HI3.out.1 HI3.out.2.1 rfl).mono ?_; rintro e w4 ⟨rfl, hi4, hb4, hk4⟩; have HE4 := Aside0.mk (And.intro hi4 (And.intro hb4 (HI3.out.2.2.trans hk4 (.inl rfl)))); clear hi4 hb4 hk4)
    go_ret
    exact ⟨rfl, HE4.out⟩
  ·cases d
   ·skip
    go_enter Tryz.func45, Tryz.ntmps45
    go_wp2
    go_quiet (fail)
    rw [← HE.out]
    go_wp2_with fail
    refine (Tryz.strings_IndexByte _ _ _).mono ?_
    rintro e w' ⟨rfl, rfl⟩
    rw [HX.out]
    go_wp2_with fail
    refine (HF.out _).mono ?_
    rintro e w2 ⟨rfl, hb2⟩
    have HI2 := Aside0.mk ((HI.out.drewN _).on hb2)
    clear hb2
    go_wp2
    first | (go_region_held3 (wire_Reader_number.St w0 w g s b) (first | exact HI2.out.drew | exact HI3.out | assumption) (first | (go_at_call 54; refine (strconv_Itoa.calls v t _ HG.out (HT.out.below (wire_Reader_number.St.b (w := w) (g := g) (s := s) (b := b) (by assumption)))).mono ?_; rintro e w3 ⟨rfl, hb3⟩; have HI3 := Aside0.mk (wire_Reader_number.St.on (w0 := w0) (w := w) (g := g) (s := s) (b := b) (by assumption) hb3); clear hb3))) | fail
    all_goals
     obtain ⟨hb3, _⟩ := HI3.out.1
     have hc3 := cellS61_0 hb3
     have hf3 := blk_frozen hb3 0
     have hn1 : (0 : Int) ≤ (n : Int) + 1 := by omega
     have hn2 : (n : Int) + 1 ≤ (s.size : Int) := by omega
     clear hb3
     go_wp2
     go_ret
     exact ⟨rfl, IsS61.set_0 HI3.out.1 _, below_set HI3.out.2.1 (IsS61.ge HI3.out.1), KeepBut.set_ HI3.out.2.2 _ _⟩
   ·skip
    go_enter Tryz.func45, Tryz.ntmps45
    go_wp2
    go_quiet (fail)
    rw [← HE.out]
    go_wp2_with fail
    refine (Tryz.strings_IndexByte _ _ _).mono ?_
    rintro e w' ⟨rfl, rfl⟩
    rw [HX.out]
    go_wp2_with fail
    refine (HF.out _).mono ?_
    rintro e w2 ⟨rfl, hb2⟩
    have HI2 := Aside0.mk ((HI.out.drewN _).on hb2)
    clear hb2
    go_wp2
    first | (go_region_held3 (wire_Reader_number.St w0 w g s b) (first | exact HI2.out.drew | exact HI3.out | assumption) (first | (go_at_call 54; refine (strconv_Itoa.calls v t _ HG.out (HT.out.below (wire_Reader_number.St.b (w := w) (g := g) (s := s) (b := b) (by assumption)))).mono ?_; rintro e w3 ⟨rfl, hb3⟩; have HI3 := Aside0.mk (wire_Reader_number.St.on (w0 := w0) (w := w) (g := g) (s := s) (b := b) (by assumption) hb3); clear hb3))) | fail
    all_goals
     go_wp2_with (go_at_call 59; refine (wire_Reader_fail.calls g _ _ _ _ w0 _ HI3.out.1 HI3.out.2.1 rfl).mono ?_; rintro e w4 ⟨rfl, hi4, hb4, hk4⟩; have HE4 := Aside0.mk (And.intro hi4 (And.intro hb4 (HI3.out.2.2.trans hk4 (.inl rfl)))); clear hi4 hb4 hk4)
     go_ret
     exact ⟨rfl, HE4.out⟩
theorem wire_Reader_number.rest (s : ByteArray) (n : Nat) (t : List UInt8) (h : s.data.toList.drop (n + 1) = t) : (⟨t.toArray⟩ : ByteArray) = s.extract (n + 1) s.size := by
 apply ByteArray.ext
 apply Array.ext'
 rw [ByteArray.data_extract, Array.toList_extract, ← h]
 have hl : s.data.toList.length = s.size := by rw [Array.length_toList]; rfl
 simp only [List.extract_eq_take_drop]
 rw [List.take_of_length_le (by rw [List.length_drop]; omega)]
theorem wire_Reader_number.calls (g : Nat) (s0_0 : ByteArray) (s0_1 : Bool) (a1 : Int) (a2 : Int) (r1 : Int) (r2 : ByteArray) (r3 : Bool) (w0 w : World) (hI : IsS61 w0 w g s0_0 s0_1) (hB : Below w0.heap.size w0 w) (h : wire_Reader_number.f s0_0 s0_1 a1 a2 = some (r1, r2, r3)) (hT : Tabs w0) :
  Calls Tryz.prog 45 #[.pointer (some ⟨g, 0, none⟩), .int .u8 a1, .int .i64 a2] w fun e w' => e = .returned (.int .i64 r1) ∧ IsS61 w0 w' g r2 r3 ∧ Below w0.heap.size w0 w' ∧ KeepBut w w' g none := by
 unfold wire_Reader_number.f at h
 split at h
 ·rename_i hc
  simp only [Option.some.injEq, Prod.mk.injEq] at h
  obtain ⟨rfl, rfl, rfl⟩ := h
  have hsl : s0_0.data.toList.length = s0_0.size := by rw [Array.length_toList]; rfl
  cases hs : WireMath.scan a1.toNat.toUInt8 s0_0.data.toList with
  | none =>
   have hr : WireMath.rdNum a1.toNat.toUInt8 a2 (wire_Reader_number.rd s0_0 s0_1).1 = none := by unfold WireMath.rdNum wire_Reader_number.rd; simp only [hs]
   rw [WireMath.number_none hr]
   exact wire_Reader_number.none_ g s0_0 s0_1 a1 a2 w0 w hI hB (WireMath.scan_none hs)
  | some p =>
   obtain ⟨hd, t⟩ := p
   obtain ⟨h1, h2, h3, h4, h5⟩ := WireMath.scan_index hs
   rw [hsl] at h5
   have hbad : (∀ v, Lib.atoiAll hd ≠ .ok v) → WireMath.rdNum a1.toNat.toUInt8 a2 (wire_Reader_number.rd s0_0 s0_1).1 = none := by
    intro hn
    unfold WireMath.rdNum wire_Reader_number.rd; simp only [hs]
    all_goals
     cases hat : Lib.atoiAll hd with
     | ok v => exact absurd hat (hn v)
     | range => rfl
     | _ => rfl
   cases hat : Lib.atoiAll hd with
   | ok v =>
    have hv := Lib.atoiAll_bounds hat
    refine (wire_Reader_number.good g s0_0 s0_1 a1 a2 w0 w hI hB hT hd.length h1 h4 h5 v hv (by rw [h2]; exact hat) _ _ rfl rfl).mono ?_
    rw [h2]
    have hr : WireMath.rdNum a1.toNat.toUInt8 a2 (wire_Reader_number.rd s0_0 s0_1).1 = if Lib.itoa v = hd ∧ a2 ≤ v then some (v, t) else none := by
     unfold WireMath.rdNum wire_Reader_number.rd; simp only [hs, hat]
    by_cases hg : Lib.itoa v = hd ∧ a2 ≤ v
    ·rw [if_pos hg] at hr
     rw [WireMath.number_some hr, wire_Reader_number.rest _ _ _ h3]
     have e1 : decide (Lib.itoa v = hd) = true := decide_eq_true hg.1
     have e2 : decide (v < a2) = false := decide_eq_false (by omega)
     rw [e1, e2]
     rintro e w' hq
     exact hq
    ·rw [if_neg hg] at hr
     rw [WireMath.number_none hr]
     have e1 : (decide (Lib.itoa v = hd) && !decide (v < a2)) = false := by
      rw [Bool.eq_false_iff]; intro hx; simp at hx; exact hg ⟨hx.1, by omega⟩
     rw [e1]
     rintro e w' hq
     exact hq
   | range =>
    have hn : ∀ v, Lib.atoiAll hd ≠ .ok v := fun v => by rw [hat]; simp
    rw [WireMath.number_none (hbad hn)]
    exact wire_Reader_number.bad g s0_0 s0_1 a1 a2 w0 w hI hB hT hd.length h1 h4 h5 (by rw [h2]; exact hn)
   | _ =>
    have hn : ∀ v, Lib.atoiAll hd ≠ .ok v := fun v => by rw [hat]; simp
    rw [WireMath.number_none (hbad hn)]
    exact wire_Reader_number.bad g s0_0 s0_1 a1 a2 w0 w hI hB hT hd.length h1 h4 h5 (by rw [h2]; exact hn)
 ·cases h
def wire_Reader_Int.f (s0_0 : ByteArray) (s0_1 : Bool) : Option (Int × ByteArray × Bool) := (wire_Reader_number.f s0_0 s0_1 59 (-9223372036854775808)).bind fun bt246 => (some (bt246.1, bt246.2.1, bt246.2.2))
set_option maxHeartbeats 8000000 in
set_option maxRecDepth 100000 in
theorem wire_Reader_Int.calls (g : Nat) (s0_0 : ByteArray) (s0_1 : Bool) (r1 : Int) (r2 : ByteArray) (r3 : Bool) (w0 w : World) (hI : IsS61 w0 w g s0_0 s0_1) (hB : Below w0.heap.size w0 w) (h : wire_Reader_Int.f s0_0 s0_1 = some (r1, r2, r3)) (hT : Tabs w0) :
  Calls Tryz.prog 26 #[.pointer (some ⟨g, 0, none⟩)] w fun e w' => e = .returned (.int .i64 r1) ∧ IsS61 w0 w' g r2 r3 ∧ Below w0.heap.size w0 w' ∧ KeepBut w w' g none := by
 have HI0 := Aside0.mk hI
 have HK := Aside0.mk (KeepBut.refl w g none)
 have HL := Aside0.mk hB.size
 clear hI
 have HT := Aside0.mk hT
 clear hT
 have HW0 := Aside0.mk hB.size
 have HB := Aside0.mk hB
 clear hB
 have H : ((wire_Reader_number.f s0_0 s0_1 59 (-9223372036854775808)).bind fun bt246 => (some (bt246.1, bt246.2.1, bt246.2.2))) = some (r1, r2, r3) := h
 clear h
 replace H := Option.bind_eq_some_iff.mp H
 obtain ⟨⟨t246, t247, t248⟩, A20, H⟩ := H
 try dsimp only at H
 have A2 := Aside0.mk A20
 clear A20
 simp only [Option.some.injEq, Prod.mk.injEq] at H
 obtain ⟨rfl, rfl, rfl⟩ := H
 go_enter Tryz.func26, Tryz.ntmps26
 go_wp2_with (first | ((with_reducible refine gate_callee (f := 45) rfl ?_); refine goesL_ (some 4) rfl rfl Tryz.func45 (by kernel_rfl) rfl #[.pointer (some ⟨g, 0, none⟩), .int .u8 59, .int .i64 (-9223372036854775808)] rfl (by (try simp only [List.map_toArray, List.map_cons, List.map_nil]); first | done | rfl | (simp only [List.length_drop, List.length_take]; rfl)) ?_; (with_reducible refine (wire_Reader_number.calls g s0_0 s0_1 59 (-9223372036854775808) t246 t247 t248 w0 _ ?side1 ?side2 A2.out HT.out).mono ?_); (case side1 => repeat (first | (with_reducible first | exact HI0.out | apply IsS61.alloc | apply IsS61.drewN | apply IsS61.drew | apply IsS61.set_0 | apply IsS61.set_1) | exact HI0.out)); (case side2 => repeat (first | (with_reducible first | exact HB.out | apply below_alloc | apply pw_below_drewN | apply below_drew1 | refine below_set ?_ (IsS61.ge HI0.out)) | exact HB.out)); rintro e w3 ⟨rfl, hi, hb, hk⟩; refine ⟨_, rfl, ?_⟩; have n0_ := Aside0.mk (KeepBut.trans (by repeat (first | (with_reducible first | exact HK.out | apply KeepBut.set_ | apply keep_drewN | apply keep_drew | apply keep_alloc) | exact HK.out)) hk (.inl rfl)); have n1_ := Aside0.mk (hb); have n2_ := Aside0.mk (hi); clear HK; clear HB; clear HI0; have HK := n0_; have HB := n1_; have HI0 := n2_; clear n0_ n1_ n2_; (try clear hb); (try clear hb2); (try clear hk); (try clear hi)))
 go_ret
 exact ⟨by first | rfl | (simp [errW_none, errW_some] <;> rfl) | (simp [*, errW_none, errW_some] <;> rfl), by repeat (first | (with_reducible first | exact HI0.out | apply IsS61.alloc | apply IsS61.drewN | apply IsS61.drew | apply IsS61.set_0 | apply IsS61.set_1) | exact HI0.out), by repeat (first | (with_reducible first | exact HB.out | apply below_alloc | apply pw_below_drewN | apply below_drew1 | refine below_set ?_ (IsS61.ge HI0.out)) | exact HB.out), by repeat (first | (with_reducible first | exact HK.out | apply KeepBut.set_ | apply keep_drewN | apply keep_drew | apply keep_alloc) | exact HK.out)⟩
def wire_Reader_close.f (s0_0 : ByteArray) (s0_1 : Bool) (a1 : ByteArray) : Option (ByteArray × Bool) :=
 if Lib.hasPrefix s0_0.data.toList a1.data.toList = true then some (⟨(Lib.trimPrefix s0_0.data.toList a1.data.toList).toArray⟩, s0_1) else some (⟨#[]⟩, true)
set_option maxHeartbeats 1000000 in
set_option maxRecDepth 100000 in
theorem wire_Reader_close.calls (g : Nat) (s0_0 : ByteArray) (s0_1 : Bool) (a1 : ByteArray) (r1 : ByteArray) (r2 : Bool) (w0 w : World) (hI : IsS61 w0 w g s0_0 s0_1) (hB : Below w0.heap.size w0 w) (h : wire_Reader_close.f s0_0 s0_1 a1 = some (r1, r2)) :
  Calls Tryz.prog 61 #[.pointer (some ⟨g, 0, none⟩), .string a1] w fun e w' => e = .returned (.tuple #[]) ∧ IsS61 w0 w' g r1 r2 ∧ Below w0.heap.size w0 w' ∧ KeepBut w w' g none := by
 unfold wire_Reader_close.f at h
 have HI := Aside0.mk hI
 have HB := Aside0.mk hB
 obtain ⟨hb, _⟩ := HI.out
 have hc0 := cellS61_0 hb
 have hf0 := blk_frozen hb 0
 clear hb hI hB
 by_cases hp : Lib.hasPrefix s0_0.data.toList a1.data.toList = true
 ·rw [if_pos hp] at h
  simp only [Option.some.injEq, Prod.mk.injEq] at h
  obtain ⟨rfl, rfl⟩ := h
  go_enter Tryz.func61, Tryz.ntmps61
  go_wp2_with (go_at_call 78; refine (Tryz.strings_CutPrefix _ _ _).mono ?_; rintro e w' ⟨rfl, rfl⟩)
  first | go_end0 | ((try simp only [Exit.inBlock, Exit.then]); refine bodyPost_ret (results_none rfl _ _ _) rfl ?_)
  exact ⟨rfl, IsS61.set_0 HI.out _, below_set HB.out (IsS61.ge HI.out), KeepBut.set_ (KeepBut.refl _ _ _) _ _⟩
 ·rw [if_neg hp] at h
  simp only [Option.some.injEq, Prod.mk.injEq] at h
  obtain ⟨rfl, rfl⟩ := h
  replace hp : Lib.hasPrefix s0_0.data.toList a1.data.toList = false := by simpa using hp
  go_enter Tryz.func61, Tryz.ntmps61
  go_wp2_with (first | (go_at_call 78; refine (Tryz.strings_CutPrefix _ _ _).mono ?_; rintro e w' ⟨rfl, rfl⟩) | (go_at_call 59; refine (wire_Reader_fail.calls g _ _ _ _ w0 _ (IsS61.set_0 HI.out _) (below_set HB.out (IsS61.ge HI.out)) rfl).mono ?_; rintro e w2 ⟨rfl, hi2, hb2, hk2⟩; have HE := Aside0.mk (And.intro hi2 (And.intro hb2 ((KeepBut.set_ (KeepBut.refl _ _ _) _ _).trans hk2 (.inl rfl)))); clear hi2 hb2 hk2))
  first | go_end0 | ((try simp only [Exit.inBlock, Exit.then]); refine bodyPost_ret (results_none rfl _ _ _) rfl ?_)
  exact ⟨rfl, HE.out⟩
end Go.Proofs.YtphcihbffiggbaaGreatDoor.PRt
