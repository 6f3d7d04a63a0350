/- WirePrefix as a law over numbers and lists: no program in sight. -/
import Derived.Test.YtigdjhnpngjhjaaDoorWireVWt
import Derived.Test.YtigdjhnpngjhjaaDoorPWtx9
namespace Go.Proofs.YtigdjhnpngjhjaaDoor.WireP4Wt
open Go.RowKit Go.Proofs.YtigdjhnpngjhjaaDoor.PWt Go.Proofs.YtigdjhnpngjhjaaDoorW.PrintWords Go.Proofs.YtigdjhnpngjhjaaDoorW.PrintLast Go.Proofs.YtigdjhnpngjhjaaDoorW.PrintMore Go.Proofs.YtigdjhnpngjhjaaDoor.WireMath Go.Proofs.YtigdjhnpngjhjaaDoor.WireWWt Go.Proofs.YtigdjhnpngjhjaaDoor.WireSWt Go.Proofs.YtigdjhnpngjhjaaDoor.WireVWt
set_option linter.unusedVariables false
theorem pre {v w : S25} (hk : kd v.f0 = kd w.f0) (iv : Is v) (iw : Is w) (gv : WireSWt.Good v) (gw : WireSWt.Good w) {u : Bytes} (h : encV w = encV v ++ u) : u = [] := by
  have hs := gv.1
  have hs' := gw.1
  unfold encV at h
  rw [← hk] at h
  split at h
  · have e1 := rNum_enc (nu_int iv.1).2 (nu_int iv.1).1 u false
    have e2 := rNum_enc (nu_int iw.1).2 (nu_int iw.1).1 [] false
    rw [List.append_nil, h] at e2
    have := e1.symm.trans e2
    simp only [Prod.mk.injEq] at this
    exact this.2.1
  · split at h
    · have e1 := rInt_enc iv.1 u false
      have e2 := rInt_enc iw.1 [] false
      rw [List.append_nil, h] at e2
      have := e1.symm.trans e2
      simp only [Prod.mk.injEq] at this
      exact this.2.1
    · split at h
      · have e1 := rText_enc (s := v.f2.data.toList) (by rw [b_length]; omega) u false rfl
        have e2 := rText_enc (s := w.f2.data.toList) (by rw [b_length]; omega) [] false rfl
        rw [List.append_nil, h] at e2
        have := e1.symm.trans e2
        simp only [Prod.mk.injEq] at this
        exact this.2.1
      · split at h
        · have e1 := rNums_enc (l := v.f3) (by have := gv.2.1; omega) iv.2 u
          have e2 := rNums_enc (l := w.f3) (by have := gw.2.1; omega) iw.2 []
          rw [List.append_nil, h] at e2
          have := e1.symm.trans e2
          simp only [Prod.mk.injEq] at this
          exact this.2.1
        · have e1 := rTexts_enc (l := wire_Texts.bs v.f4) (by rw [bs_length]; have := gv.2.2.1; omega) (bs_mem (c := 9223372036854775807) fun x hx => by have := gv.2.2.2 x hx; omega) u
          have e2 := rTexts_enc (l := wire_Texts.bs w.f4) (by rw [bs_length]; have := gw.2.2.1; omega) (bs_mem (c := 9223372036854775807) fun x hx => by have := gw.2.2.2 x hx; omega) []
          rw [List.append_nil, h] at e2
          have := e1.symm.trans e2
          simp only [Prod.mk.injEq] at this
          exact this.2.1
theorem j1_ev {v w : S25} (iv : Is v) (iw : Is w) (gv : WireSWt.Good v) (gw : WireSWt.Good w) (b : Bool) (hb : b = false → encV v = encV w) : Ev (fun k => taquinlaw01_WirePrefix.j1 k true (B (encV v)) (B (encV w)) b w.f0 w.f1 w.f2 w.f3 w.f4) true := by
  cases b with
  | true =>
    refine Ev.step (f := fun k => some true) (fun k => ?_) (Ev.now _)
    simp only [taquinlaw01_WirePrefix.j1, if_true]
  | false =>
    have e := hb rfl
    rw [e]
    refine Ev.step (f := fun k => (taquinlaw01_equal.f k (B (encV w ++ [])) false w.f0 w.f1 w.f2 w.f3 w.f4).bind fun bt356 => (some bt356.1)) (fun k => ?_) (Ev.bind (equal_ev iw gw [] (by simp)) (Ev.now _))
    simp only [taquinlaw01_WirePrefix.j1, Bool.false_eq_true, if_false, if_true, List.append_nil]
    rfl
theorem prefixed (v w : S25) (iv : Is v) (iw : Is w) : ∃ k, taquinlaw01_WirePrefix.f k v.f0 v.f1 v.f2 v.f3 v.f4 w.f0 w.f1 w.f2 w.f3 w.f4 = some true := by
  refine Ev.rounds (g := fun k => taquinlaw01_WirePrefix.f k v.f0 v.f1 v.f2 v.f3 v.f4 w.f0 w.f1 w.f2 w.f3 w.f4) ?_
  unfold taquinlaw01_WirePrefix.f
  refine Ev.bind small_ev ?_
  have stop : Ev (fun k => taquinlaw01_WirePrefix.j0 k true true v.f0 v.f1 v.f2 v.f3 v.f4 w.f0 w.f1 w.f2 w.f3 w.f4) true := by
    refine Ev.step (f := fun k => some true) (fun k => ?_) (Ev.now _)
    simp only [taquinlaw01_WirePrefix.j0, if_true]
  obtain ⟨b, hf, hg⟩ := few_ev [v]
  refine Ev.bind hf ?_
  cases b with
  | false => exact Ev.congr (fun k => by simp only [Bool.false_eq_true, if_false]) stop
  | true =>
    have gv := (hg rfl).2 v (List.mem_singleton.2 rfl)
    refine Ev.congr (fun k => if_pos rfl) ?_
    obtain ⟨c, hf2, hg2⟩ := few_ev [w]
    refine Ev.bind hf2 ?_
    cases c with
    | false => exact Ev.congr (fun k => by simp only [Bool.false_eq_true, if_false]) stop
    | true =>
      have gw := (hg2 rfl).2 w (List.mem_singleton.2 rfl)
      refine Ev.congr (fun k => if_pos rfl) ?_
      rw [kind_eq, kind_eq]
      simp only [Option.bind_some]
      by_cases hk : kd v.f0 = kd w.f0
      · simp only [hk, bne_self_eq_false]
        refine Ev.step (f := fun k => if ((B (encV v)).size : Int) > ((B (encV w)).size : Int) then (taquinlaw01_WirePrefix.j1 k true (B (encV v)) (B (encV w)) true w.f0 w.f1 w.f2 w.f3 w.f4) else (if 0 ≤ (mn ((B (encV v)).size : Int) ((B (encV w)).size : Int)) then (if (mn ((B (encV v)).size : Int) ((B (encV w)).size : Int)) ≤ ((B (encV w)).size : Int) then (taquinlaw01_WirePrefix.j1 k true (B (encV v)) (B (encV w)) (((B (encV w)).extract 0 ((mn ((B (encV v)).size : Int) ((B (encV w)).size : Int)) : Int).toNat).toList != (B (encV v)).toList) w.f0 w.f1 w.f2 w.f3 w.f4) else (none)) else (none))) (fun k => ?_) ?_
        · simp only [taquinlaw01_WirePrefix.j0, Bool.false_eq_true, if_false]
          rw [write_eq iv gv, write_eq iw gw, Option.bind_some, Option.bind_some]
        · by_cases hs : ((B (encV v)).size : Int) > ((B (encV w)).size : Int)
          · exact Ev.congr (fun k => if_pos hs) (j1_ev iv iw gv gw true (fun h => by cases h))
          · refine Ev.congr (fun k => if_neg hs) ?_
            have e : mn ((B (encV v)).size : Int) ((B (encV w)).size : Int) = ((encV v).length : Int) := by
              rw [b_size, b_size] at *; unfold mn; split <;> omega
            have hle : (encV v).length ≤ (encV w).length := by rw [b_size, b_size] at hs; omega
            simp only [e]
            refine Ev.congr (fun k => if_pos (by omega)) ?_
            refine Ev.congr (fun k => if_pos (by rw [b_size]; omega)) ?_
            refine j1_ev iv iw gv gw _ (fun h => ?_)
            rw [bne_eq_false_iff_eq, Int.toNat_natCast, b_toList (encV v)] at h
            have h2 : (encV w).take (encV v).length = encV v := by
              rw [← h, ByteArray.toList_eq, ByteArray.data_extract]
              simp
            have h3 : encV w = encV v ++ (encV w).drop (encV v).length := by
              conv => lhs; rw [← List.take_append_drop (encV v).length (encV w), h2]
            rw [pre hk iv iw gv gw h3, List.append_nil] at h3
            exact h3.symm
      · have hne : (kd v.f0 != kd w.f0) = true := bne_iff_ne.2 hk
        simp only [hne]
        exact stop
end Go.Proofs.YtigdjhnpngjhjaaDoor.WireP4Wt
