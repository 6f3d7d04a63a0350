/- The desk of package seam: Bytes. -/
import Derived.Test.YtdgbfaflepiagaaDoorSeamD
import Derived.Test.YtdgbfaflepiagaaDoorWireB
import Derived.Test.YtdgbfaflepiagaaDoorBase
import Derived.Test.YtdgbfaflepiagaaDoorShelf
import Derived.Test.YtdgbfaflepiagaaDoorPSex1
import Derived.Test.YtdgbfaflepiagaaDoorPSex2
namespace Go.Proofs.YtdgbfaflepiagaaDoor.Seam
open Go.RowKit Go.Proofs.YtdgbfaflepiagaaDoorW.PrintWords Go.Proofs.YtdgbfaflepiagaaDoorW.PrintMore Go.Proofs.YtdgbfaflepiagaaDoor.PSe Go.Proofs.YtdgbfaflepiagaaDoor.WireMath Go.Proofs.YtdgbfaflepiagaaDoor.WireB
set_option linter.unusedVariables false
set_option linter.unusedSimpArgs false
/-- Every other block than b and rows of bytes is as it was. -/
def Far (b : Nat) (w w' : World) : Prop := ∀ (i : Nat) (c : Array Value) (t : TypeId), i ≠ b → 5 ≠ t → w.heap[i]? = some (.cells c t (0, 0)) → w'.heap[i]? = some (.cells c t (0, 0))
theorem Far.then_ {b : Nat} {w w1 w2 : World} (h : Far b w w1) (k : Far b w1 w2) : Far b w w2 := fun i c t hi ht e => k i c t hi ht (h i c t hi ht e)
theorem Far.set (b : Nat) (w : World) (j : Nat) (u : Value) : Far b w (w.setCell ⟨b, j, none⟩ u) := fun i c t hi ht e => blk_far e (p := ⟨b, j, none⟩) (fun h => hi h) u
theorem Far.grown {B b n : Nat} {w w1 : World} {v : Value} {xs : List Value} (hg : w.grownBy w1 v.ownBlock) (ho : w.ownsRow B 5 1 v n xs) : Far b w w1 := fun i c t hi ht e => blk_grown e hg (own_ne ho e ht)
theorem isBuilder_lt {T e : TypeId} {B b : Nat} {bs : List Value} {w : World} (h : Lib.IsBuilder T e B b bs w) : b < w.heap.size := by
  rcases h with ⟨_, v, h2, _⟩ | ⟨_, v, h2, _⟩
  · exact blk_lt h2
  · exact blk_lt h2
theorem copyCheckK (B b : Nat) (bs : List Value) (w : World) (h : Lib.IsBuilder 90 5 B b bs w) :
    Calls Tryd.prog 73 #[.pointer (some ⟨b, 0, none⟩)] w fun e w' => e = .returned (.tuple #[]) ∧ (Lib.BuilderAt 90 5 B b (.pointer (some ⟨b, 0, none⟩)) bs w' ∧ Below B w w' ∧ Far b w w') := by
  rcases h with h | h
  · refine (copyCheck_fresh b w h.cell0 h.shape h.frozen0).mono ?_
    rintro e w' ⟨rfl, rfl⟩
    exact ⟨rfl, h.used _, (Below.refl B w).setCell (p := ⟨b, 0, none⟩) h.1 _, Far.set b w 0 _⟩
  · refine (copyCheck_used b w h.cell0).mono ?_
    rintro e w' ⟨rfl, rfl⟩
    exact ⟨rfl, h, Below.refl B _, fun _ _ _ _ _ h => h⟩
set_option maxHeartbeats 2000000 in
set_option maxRecDepth 100000 in
theorem writeStringK (B b : Nat) (bs : List Value) (s : ByteArray) (w : World) (h : Lib.IsBuilder 90 5 B b bs w) (hlen : bs.length + s.size ≤ 140737488355328) (hBw : B ≤ w.heap.size) :
    Calls Tryd.prog 48 #[.pointer (some ⟨b, 0, none⟩), .string s] w fun e w' => e = .returned (.tuple #[.int .i64 s.size, .nilIface]) ∧ (Lib.IsBuilder 90 5 B b (bs ++ Lib.strCells s) w' ∧ Below B w w' ∧ Far b w w') := by
  obtain ⟨i0, hi, hz0, hz1, hz2⟩ := info_parts infoByte
  go_enter Tryd.func48, Tryd.ntmps48
  go_wp2_with (go_at_call 73; refine (copyCheckK B b bs _ h).mono ?_)
  rintro e w1 ⟨rfl, h1, hb1, hf1⟩
  obtain ⟨hB, v, hbk, hown, hne⟩ := h1
  have c0 : w1.cell? ⟨b, 0, none⟩ = some (.pointer (some ⟨b, 0, none⟩)) := by rw [Lib.cell_of_heap hbk]; rfl
  have c1 : w1.cell? ⟨b, 1, none⟩ = some v := by rw [Lib.cell_of_heap hbk]; rfl
  go_wp2_with (at_builtin; refine Lib.wpList_append_own_string _ rfl _ _ 88 9 rfl B 5 i0 Tryd.underlying88 Tryd.underlying9 hi hz0 hz1 hz2 _ _ _ rfl hown s rfl ?c3 ?c4 ?c5 ?_)
  case c3 => unfold maxLen; omega
  case c4 => omega
  case c5 => have := hb1.size; omega
  intro v' w2 hown' hgrow _
  have hlt : b < w1.heap.size := by
    rcases Nat.lt_or_ge b w1.heap.size with h' | h'
    · exact h'
    · simp [Array.getElem?_eq_none h'] at hbk
  have hb2 : w2.heap[b]? = some (.cells #[.pointer (some ⟨b, 0, none⟩), v] 90 (0, 0)) := by
    rw [hgrow.block b hlt (fun e => hne e.symm)]
    exact hbk
  have d0 : w2.cell? ⟨b, 0, none⟩ = some (.pointer (some ⟨b, 0, none⟩)) := by rw [Lib.cell_of_heap hb2]; rfl
  have d1 : w2.cell? ⟨b, 1, none⟩ = some v := by rw [Lib.cell_of_heap hb2]; rfl
  have f1 : w2.frozen? ⟨b, 1, none⟩ = false := Lib.frozen_of_heap hb2 1
  obtain ⟨ao, n', cap, rfl⟩ : ∃ ao n' cap, v' = .slice ao n' cap := by
    rcases hown'.2 with ⟨hv, _⟩ | ⟨g, cap, cur, hv, _⟩
    · exact ⟨_, _, _, hv⟩
    · exact ⟨_, _, _, hv⟩
  go_wp2
  go_ret2
  refine ⟨rfl, .inr ?_, ?_, ?_⟩
  · exact Lib.BuilderAt.put (T := 90) (e := 5) hB hb2 (bs' := bs ++ Lib.strCells s) (by simpa [Lib.strCells_length] using hown') (by decide)
  · exact (hb1.grown hgrow (by have := hb1.size; omega) (fun k hk => (hown.lt k hk).1)).setCell (p := ⟨b, 1, none⟩) hB _
  · exact (hf1.then_ (Far.grown hgrow hown)).then_ (Far.set b w2 1 _)
theorem int_eq {n : Int} (h : isInt n) : wire_Int.f n = some (B (encInt n)) := by
  have hl := itoa_length h
  unfold wire_Int.f
  rw [strconv_Itoa.tells h, Option.bind_some, if_pos (by show (Lib.itoa n).toArray.size + 1 ≤ _; simp; omega)]
  apply congrArg some
  apply ByteArray.ext; apply Array.ext'; simp [encInt]
theorem num_eq {n : Int} (h : isInt n) : wire_Num.f n = some (B (encNum n)) := by
  unfold wire_Num.f encNum
  by_cases hn : n < 0
  · rw [if_pos hn, if_pos hn]
  · rw [if_neg hn, if_neg hn, int_eq h]; rfl
def bit (b : Bool) : Int := if b then 1 else 0
def encRob (r : Rob) : Bytes := encInt r.ph ++ encInt r.no ++ encInt (bit r.rf)
def encDesk (me : Int) (l : List Rob) : Bytes := encInt me ++ encNum l.length ++ (l.map encRob).flatten
/-- What a desk holds are numbers. -/
def Ints (l : List Rob) : Prop := ∀ r ∈ l, isInt r.ph ∧ isInt r.no
theorem bit_int (b : Bool) : isInt (bit b) := by cases b <;> exact ⟨by decide, by decide⟩
theorem encRob_le {r : Rob} (h : isInt r.ph ∧ isInt r.no) : (encRob r).length ≤ 63 := by
  have h1 := encInt_le h.1
  have h2 := encInt_le h.2
  have h3 := encInt_le (bit_int r.rf)
  simp only [encRob, List.length_append]; omega
theorem robs_le {l : List Rob} (h : Ints l) : ((l.map encRob).flatten).length ≤ l.length * 63 := flat_le encRob 63 l (fun a ha => encRob_le (h a ha))
theorem encNum_le {n : Int} (h : isInt n) : (encNum n).length ≤ 21 := by
  unfold encNum; split
  · simp
  · exact encInt_le h
/-- What is written before the robot of number k. -/
def acc (me : Int) (l : List Rob) (k : Nat) : Bytes := encInt me ++ encNum l.length ++ ((l.take k).map encRob).flatten
theorem acc_snoc (me : Int) (l : List Rob) (k : Nat) (h : k < l.length) : acc me l (k + 1) = acc me l k ++ encRob l[k] := by
  unfold acc
  rw [List.take_succ_eq_append_getElem h, List.map_append, List.flatten_append]
  simp [List.append_assoc]
theorem acc_le {me : Int} {l : List Rob} (hm : isInt me) (h : Ints l) (hl : l.length ≤ 1000000) (k : Nat) : (acc me l k).length ≤ 64000000 := by
  have h1 := encInt_le hm
  have h2 := encNum_le (n := l.length) ⟨by omega, by omega⟩
  have h3 := robs_le (l := l.take k) (fun r hr => h r (List.mem_of_mem_take hr))
  have h4 : (l.take k).length ≤ 1000000 := by rw [List.length_take]; omega
  simp only [acc, List.length_append]; omega
theorem strCells_b (l : Bytes) : Lib.strCells (B l) = Lib.byteCells l := (Lib.strCells_toArray l)
set_option maxHeartbeats 8000000 in
set_option maxRecDepth 100000 in
theorem bytes_calls (b g : Nat) (me : Int) (v : Value) (l : List Rob) (w : World) (hD : Dk w b g me v l) (hl : l.length ≤ 1000000) (hm : isInt me) (hr : Ints l) (hT : Tabs w) :
    Calls Tryd.prog 15 #[.pointer (some ⟨g, 0, none⟩)] w fun e w' => e = .returned (.string (B (encDesk me l))) ∧ Below w.heap.size w w' := by
  obtain ⟨A, c, rfl⟩ := hD.slice
  obtain ⟨s1, hs1⟩ : ∃ s, s = B (encInt me) := ⟨_, rfl⟩
  obtain ⟨s2, hs2⟩ : ∃ s, s = B (encNum l.length) := ⟨_, rfl⟩
  have HX : Aside0 (wire_Int.f me = some s1 ∧ wire_Num.f (l.length : Int) = some s2) := ⟨by rw [hs1]; exact int_eq hm, by rw [hs2]; exact num_eq ⟨by omega, by omega⟩⟩
  have hz1 : s1.size ≤ 21 := by rw [hs1, b_size]; exact encInt_le hm
  have hz2 : s2.size ≤ 21 := by rw [hs2, b_size]; exact encNum_le ⟨by omega, by omega⟩
  have HZ := Aside0.mk (And.intro hz1 hz2)
  have hs3 : (9223372036854775807 < s1.size + s2.size) = False := eq_false (by omega)
  have hs4 : decide (s1.size + s2.size ≤ 9223372036854775807) = true := decide_eq_true (by omega)
  have HE0 : Aside0 (Lib.strCells (s1 ++ s2) = Lib.byteCells (acc me l 0)) := ⟨by rw [hs1, hs2, b_append, strCells_b]; simp [acc]⟩
  have HM := Aside0.mk (And.intro hm hr)
  have HT := Aside0.mk hT
  have HD := Aside0.mk hD
  clear hD hs1 hs2 hz1 hz2 hm hr hT
  go_enter Tryd.func15, Tryd.ntmps15
  go_wp2_with fail
  have HF := Aside0.mk (Lib.fresh_isBuilder 90 5 w)
  have HW := Aside0.mk (below_alloc (Below.refl w.heap.size w) (.cells #[.pointer none, .slice none 0 0] 90 (0, 0)))
  generalize hW : w.alloc _ = w1 at HF HW ⊢
  clear hW
  have toS : Aside0 (∀ w', Below w.heap.size w w' → (fun w' => w'.cell? ⟨g, 0, none⟩ = some (.int .i64 me) ∧ w'.cell? ⟨g, 1, none⟩ = some (.slice A l.length c) ∧ Below w.heap.size w w') w') := ⟨fun w' h => ⟨(HD.out.below h).c0, (HD.out.below h).c1, h⟩⟩
  have HI := Aside0.mk (below_step HW.out (below_drew (Below.refl _ _)))
  have HJ := Aside0.mk (isBuilder_below HF.out (below_drew (Below.refl _ _)))
  have hS := toS.out _ HI.out
  go_region_held3 (fun w' => w'.cell? ⟨g, 0, none⟩ = some (.int .i64 me) ∧ w'.cell? ⟨g, 1, none⟩ = some (.slice A l.length c) ∧ Below w.heap.size w w') (first | assumption | exact toS.out _ HI.out | exact toS.out _ HI2.out | exact toS.out _ HI3.out) (first
    | (go_split_ands; go_at_call 45; (with_reducible refine (wire_Int.calls me s1 _ HX.out.1 ?c4).mono ?_); (case c4 => exact HT.out.below (by assumption)); rintro e w6 ⟨rfl, hb⟩; have HI2 := Aside0.mk (below_step (by assumption) hb); have HJ2 := Aside0.mk (isBuilder_below HJ.out hb); clear hb)
    | (go_split_ands; go_at_call 49; (with_reducible refine (wire_Num.calls (l.length : Int) s2 _ HX.out.2 ?c4).mono ?_); (case c4 => exact HT.out.below (by assumption)); rintro e w7 ⟨rfl, hb⟩; have HI3 := Aside0.mk (below_step (by assumption) hb); have HJ3 := Aside0.mk (isBuilder_below HJ2.out hb); clear hb)
    | (go_split_ands; go_at_call 48; (with_reducible refine (writeString w.heap.size w.heap.size [] (s1 ++ s2) _ HJ3.out ?c5 ?c6).mono ?_); (case c5 => have := HZ.out; simp only [List.length_nil, ByteArray.size_append]; omega); (case c6 => exact (HI3.out).size); rintro e w8 ⟨rfl, hi, hb⟩; have HI := Aside0.mk (HI3.out.trans hb); rw [List.nil_append, HE0.out] at hi; have HJ := Aside0.mk hi; clear hb hi))
  have k1 := (HD.out.below HI.out).c1
  clear HF HW HI2 HI3 HJ2 HJ3 HE0 HX hs3 hs4 HZ
  go_wp2
  go_loopw [25, 5, 6] (fun t25 _ _ wr => ∃ k : Nat, k ≤ l.length ∧ t25 = .int .i64 k ∧ Aside0 (Lib.IsBuilder 90 5 w.heap.size w.heap.size (Lib.byteCells (acc me l k)) wr) ∧ Aside0 (Below w.heap.size w wr)) (fun t25 _ _ _ => l.length - (intOf t25).toNat)
  case atStart => exact ⟨0, Nat.zero_le _, rfl, HJ, HI⟩
  case round =>
    clear HJ HI k1
    obtain ⟨k, hk, rfl, HJ, HI⟩ := hrel
    by_cases hlt : k < l.length
    · obtain ⟨r, cap, e⟩ := HD.out.form hlt
      injection e with e1 _ e3
      subst e1 e3
      obtain ⟨q0, q1, q2⟩ := (HD.out.below HI.out).cells hlt
      have hq := HM.out.2 _ (List.getElem_mem hlt)
      have HA := Aside0.mk (acc_snoc me l k hlt)
      have HL := Aside0.mk (acc_le HM.out.1 HM.out.2 hl k)
      have hn := (HI.out).size
      generalize l[k] = q at q0 q1 q2 hq HA
      obtain ⟨ph, no, rf⟩ := q
      simp only at q0 q1 q2 hq
      obtain ⟨s1, hs1⟩ : ∃ s, s = B (encInt ph) := ⟨_, rfl⟩
      obtain ⟨s2, hs2⟩ : ∃ s, s = B (encInt no) := ⟨_, rfl⟩
      obtain ⟨s3, hs3⟩ : ∃ s, s = B (encInt (bit rf)) := ⟨_, rfl⟩
      have HX : Aside0 (wire_Int.f ph = some s1 ∧ wire_Int.f no = some s2 ∧ wire_Int.f (bit rf) = some s3) := ⟨by rw [hs1]; exact int_eq hq.1, by rw [hs2]; exact int_eq hq.2, by rw [hs3]; exact int_eq (bit_int _)⟩
      have hz1 : s1.size ≤ 21 := by rw [hs1, b_size]; exact encInt_le hq.1
      have hz2 : s2.size ≤ 21 := by rw [hs2, b_size]; exact encInt_le hq.2
      have hz3 : s3.size ≤ 21 := by rw [hs3, b_size]; exact encInt_le (bit_int _)
      have HE : Aside0 (Lib.strCells (s1 ++ s2 ++ s3) = Lib.byteCells (encRob ⟨ph, no, rf⟩)) := ⟨by rw [hs1, hs2, hs3, b_append, b_append, strCells_b]; rfl⟩
      have HZ := Aside0.mk (And.intro hz1 (And.intro hz2 hz3))
      have g3 : (9223372036854775807 < s1.size + s2.size) = False := eq_false (by omega)
      have g4 : decide (s1.size + s2.size ≤ 9223372036854775807) = true := decide_eq_true (by omega)
      have g5 : (9223372036854775807 < s1.size + s2.size + s3.size) = False := eq_false (by omega)
      have g6 : decide (s1.size + s2.size + s3.size ≤ 9223372036854775807) = true := decide_eq_true (by omega)
      have HX3 := Aside0.mk HX.out.2.2
      have hne : wr.heap.size ≠ w.heap.size := by have := isBuilder_lt HJ.out; omega
      clear hs1 hs2 hs3 hz1 hz2 hz3 hq
      cases rf with
      | true =>
        change Aside0 (wire_Int.f 1 = some s3) at HX3
        go_wp2_with fail
        have HB := Aside0.mk (blk_new wr (.cells #[.int .i64 ph, .int .i64 no, .bool true] 83 (0, 0)))
        have HW := Aside0.mk (below_alloc HI.out (.cells #[.int .i64 ph, .int .i64 no, .bool true] 83 (0, 0)))
        have HJ1 := Aside0.mk (isBuilder_below HJ.out (below_alloc (Below.refl _ _) (.cells #[.int .i64 ph, .int .i64 no, .bool true] 83 (0, 0))))
        clear q0 q1 q2 HJ HI
        have hx : (fun w1 : World => True) (wr.alloc (.cells #[.int .i64 ph, .int .i64 no, .bool true] 83 (0, 0))) := trivial
        generalize hW : wr.alloc _ = w1 at HB HW HJ1 hx ⊢
        clear hW hx
        have toS : Aside0 (∀ w', w'.heap[wr.heap.size]? = some (.cells #[.int .i64 ph, .int .i64 no, .bool true] 83 (0, 0)) ∧ Below w.heap.size w w' → (fun w' => w'.cell? ⟨wr.heap.size, 0, none⟩ = some (.int .i64 ph) ∧ w'.cell? ⟨wr.heap.size, 1, none⟩ = some (.int .i64 no) ∧ Below w.heap.size w w') w') := ⟨fun w' h => ⟨(blk_cell h.1 0).trans rfl, (blk_cell h.1 1).trans rfl, h.2⟩⟩
        have HI := Aside0.mk (And.intro (blk_drew HB.out) (below_step HW.out (below_drew (Below.refl _ _))))
        have HJ := Aside0.mk (isBuilder_below HJ1.out (below_drew (Below.refl _ _)))
        have hS := toS.out _ HI.out
        clear HB HW HJ1
        go_region_held3 (fun w' => w'.cell? ⟨wr.heap.size, 0, none⟩ = some (.int .i64 ph) ∧ w'.cell? ⟨wr.heap.size, 1, none⟩ = some (.int .i64 no) ∧ Below w.heap.size w w') (first | assumption | exact toS.out _ HI4.out | exact toS.out _ HI3.out | exact toS.out _ HI2.out | exact toS.out _ HI1.out) (first
          | (go_split_ands; go_at_call 45; (with_reducible refine (wire_Int.calls ph s1 _ HX.out.1 ?c4).mono ?_); (case c4 => exact HT.out.below (by assumption)); rintro e w6 ⟨rfl, hb⟩; have HI1 := Aside0.mk (And.intro (blk_below HI.out.1 hb) (below_step HI.out.2 hb)); have HJ1 := Aside0.mk (isBuilder_below HJ.out hb); clear hb)
          | (go_split_ands; go_at_call 45; (with_reducible refine (wire_Int.calls no s2 _ HX.out.2.1 ?c4).mono ?_); (case c4 => exact HT.out.below (by assumption)); rintro e w7 ⟨rfl, hb⟩; have HI2 := Aside0.mk (And.intro (blk_below HI1.out.1 hb) (below_step HI1.out.2 hb)); have HJ2 := Aside0.mk (isBuilder_below HJ1.out hb); clear hb)
          | (go_split_ands; go_at_call 45; (with_reducible refine (wire_Int.calls 1 s3 _ HX3.out ?c4).mono ?_); (case c4 => exact HT.out.below (by assumption)); rintro e w8 ⟨rfl, hb⟩; have HI3 := Aside0.mk (And.intro (blk_below HI2.out.1 hb) (below_step HI2.out.2 hb)); have HJ3 := Aside0.mk (isBuilder_below HJ2.out hb); clear hb)
          | (go_split_ands; go_at_call 48; (with_reducible refine (writeStringK w.heap.size w.heap.size _ (s1 ++ s2 ++ s3) _ HJ3.out ?c5 ?c6).mono ?_); (case c5 => have := HZ.out; have := HL.out; rw [Lib.byteCells_length]; simp only [ByteArray.size_append]; omega); (case c6 => exact (HI3.out.2).size); rintro e w9 ⟨rfl, hi, hb, hf⟩; have HJ4 := Aside0.mk hi; have HI4 := Aside0.mk (And.intro (hf _ _ _ hne (by decide) HI3.out.1) (HI3.out.2.trans hb)); clear hb hi hf))
        have HK : Aside0 (Lib.IsBuilder 90 5 w.heap.size w.heap.size (Lib.byteCells (acc me l (k + 1))) w9) := ⟨by
          rw [HA.out, Lib.byteCells_append, ← HE.out]; exact HJ4.out⟩
        have HM4 := Aside0.mk HI4.out.2
        clear HJ4 HI4 HI3 HJ3 HI2 HJ2 HI1 HJ1 HI HJ toS HE HA HX HX3 HZ g3 g4 g5 g6
        go_wp2
        go_roundw
        case rel => exact ⟨k + 1, by omega, by go_num, HK, HM4⟩
        case measure => simp [intOf]; omega
      | false =>
        change Aside0 (wire_Int.f 0 = some s3) at HX3
        go_wp2_with fail
        have HB := Aside0.mk (blk_new wr (.cells #[.int .i64 ph, .int .i64 no, .bool false] 83 (0, 0)))
        have HW := Aside0.mk (below_alloc HI.out (.cells #[.int .i64 ph, .int .i64 no, .bool false] 83 (0, 0)))
        have HJ1 := Aside0.mk (isBuilder_below HJ.out (below_alloc (Below.refl _ _) (.cells #[.int .i64 ph, .int .i64 no, .bool false] 83 (0, 0))))
        clear q0 q1 q2 HJ HI
        have hx : (fun w1 : World => True) (wr.alloc (.cells #[.int .i64 ph, .int .i64 no, .bool false] 83 (0, 0))) := trivial
        generalize hW : wr.alloc _ = w1 at HB HW HJ1 hx ⊢
        clear hW hx
        have toS : Aside0 (∀ w', w'.heap[wr.heap.size]? = some (.cells #[.int .i64 ph, .int .i64 no, .bool false] 83 (0, 0)) ∧ Below w.heap.size w w' → (fun w' => w'.cell? ⟨wr.heap.size, 0, none⟩ = some (.int .i64 ph) ∧ w'.cell? ⟨wr.heap.size, 1, none⟩ = some (.int .i64 no) ∧ Below w.heap.size w w') w') := ⟨fun w' h => ⟨(blk_cell h.1 0).trans rfl, (blk_cell h.1 1).trans rfl, h.2⟩⟩
        have HI := Aside0.mk (And.intro (blk_drew HB.out) (below_step HW.out (below_drew (Below.refl _ _))))
        have HJ := Aside0.mk (isBuilder_below HJ1.out (below_drew (Below.refl _ _)))
        have hS := toS.out _ HI.out
        clear HB HW HJ1
        go_region_held3 (fun w' => w'.cell? ⟨wr.heap.size, 0, none⟩ = some (.int .i64 ph) ∧ w'.cell? ⟨wr.heap.size, 1, none⟩ = some (.int .i64 no) ∧ Below w.heap.size w w') (first | assumption | exact toS.out _ HI4.out | exact toS.out _ HI3.out | exact toS.out _ HI2.out | exact toS.out _ HI1.out) (first
          | (go_split_ands; go_at_call 45; (with_reducible refine (wire_Int.calls ph s1 _ HX.out.1 ?c4).mono ?_); (case c4 => exact HT.out.below (by assumption)); rintro e w6 ⟨rfl, hb⟩; have HI1 := Aside0.mk (And.intro (blk_below HI.out.1 hb) (below_step HI.out.2 hb)); have HJ1 := Aside0.mk (isBuilder_below HJ.out hb); clear hb)
          | (go_split_ands; go_at_call 45; (with_reducible refine (wire_Int.calls no s2 _ HX.out.2.1 ?c4).mono ?_); (case c4 => exact HT.out.below (by assumption)); rintro e w7 ⟨rfl, hb⟩; have HI2 := Aside0.mk (And.intro (blk_below HI1.out.1 hb) (below_step HI1.out.2 hb)); have HJ2 := Aside0.mk (isBuilder_below HJ1.out hb); clear hb)
          | (go_split_ands; go_at_call 45; (with_reducible refine (wire_Int.calls 0 s3 _ HX3.out ?c4).mono ?_); (case c4 => exact HT.out.below (by assumption)); rintro e w8 ⟨rfl, hb⟩; have HI3 := Aside0.mk (And.intro (blk_below HI2.out.1 hb) (below_step HI2.out.2 hb)); have HJ3 := Aside0.mk (isBuilder_below HJ2.out hb); clear hb)
          | (go_split_ands; go_at_call 48; (with_reducible refine (writeStringK w.heap.size w.heap.size _ (s1 ++ s2 ++ s3) _ HJ3.out ?c5 ?c6).mono ?_); (case c5 => have := HZ.out; have := HL.out; rw [Lib.byteCells_length]; simp only [ByteArray.size_append]; omega); (case c6 => exact (HI3.out.2).size); rintro e w9 ⟨rfl, hi, hb, hf⟩; have HJ4 := Aside0.mk hi; have HI4 := Aside0.mk (And.intro (hf _ _ _ hne (by decide) HI3.out.1) (HI3.out.2.trans hb)); clear hb hi hf))
        have HK : Aside0 (Lib.IsBuilder 90 5 w.heap.size w.heap.size (Lib.byteCells (acc me l (k + 1))) w9) := ⟨by
          rw [HA.out, Lib.byteCells_append, ← HE.out]; exact HJ4.out⟩
        have HM4 := Aside0.mk HI4.out.2
        clear HJ4 HI4 HI3 HJ3 HI2 HJ2 HI1 HJ1 HI HJ toS HE HA HX HX3 HZ g3 g4 g5 g6
        go_wp2
        go_roundw
        case rel => exact ⟨k + 1, by omega, by go_num, HK, HM4⟩
        case measure => simp [intOf]; omega
    · obtain rfl : k = l.length := by omega
      have HE : Aside0 (acc me l l.length = encDesk me l) := ⟨by unfold acc encDesk; rw [List.take_length]⟩
      go_wp2_with fail
      refine (Tryd.Builder_String_any w.heap.size w.heap.size _ _ HJ.out HI.out.size).mono ?_
      rintro e w3 ⟨rfl, hb⟩
      have HB3 := Aside0.mk (HI.out.trans hb)
      clear hb
      go_wp2
      go_ret
      exact ⟨by rw [HE.out]; rfl, HB3.out⟩
end Go.Proofs.YtdgbfaflepiagaaDoor.Seam
