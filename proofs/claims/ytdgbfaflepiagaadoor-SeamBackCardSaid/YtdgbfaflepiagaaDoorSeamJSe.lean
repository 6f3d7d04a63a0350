/- The law SeamBack: its walk. -/
import Derived.Test.YtdgbfaflepiagaaDoorSeamJ0Se
namespace Go.Proofs.YtdgbfaflepiagaaDoor.Seam
open Go.RowKit Go.Proofs.YtdgbfaflepiagaaDoorW.PrintWords Go.Proofs.YtdgbfaflepiagaaDoorW.PrintMore Go.Proofs.YtdgbfaflepiagaaDoor.PSe Go.Proofs.YtdgbfaflepiagaaDoor.WireMath Go.Proofs.YtdgbfaflepiagaaDoor.WireB
set_option linter.unusedVariables false
set_option linter.unusedSimpArgs false
abbrev ops_ (w : World) (A : Option Addr) (l : List Op) : Prop := Kd.C k34 w A l.length l
theorem ops_at {w w1 : World} {A : Option Addr} {l : List Op} (h : ops_ w A l) (hb : Below w.heap.size w w1) {k : Nat} (hk : k < l.length) : ∃ ad, A = some ad ∧ w1.cell? (ad.add (k * 5)) = some (.int .i64 l[k].f0) ∧ w1.cell? ⟨(ad.add (k * 5)).block, (ad.add (k * 5)).off + 1, none⟩ = some (.int .i64 l[k].f1.f0) ∧
    w1.cell? ⟨(ad.add (k * 5)).block, (ad.add (k * 5)).off + 2, none⟩ = some (.int .i64 l[k].f1.f1) ∧ w1.cell? ⟨(ad.add (k * 5)).block, (ad.add (k * 5)).off + 3, none⟩ = some (.int .i64 l[k].f1.f2) ∧ w1.cell? ⟨(ad.add (k * 5)).block, (ad.add (k * 5)).off + 4, none⟩ = some (.bool l[k].f2) := by
  obtain ⟨ad, e, h0, h1, h2, h3, h4⟩ := at_T34 h (k : Int) (by omega) (by omega)
  have er : rd_T34 l (k : Int) = l[k] := by unfold rd_T34; simp [List.getD, hk]
  rw [er] at h0 h1 h2 h3 h4
  rw [Int.toNat_natCast] at h0 h1 h2 h3 h4
  exact ⟨ad, e, pw_cell_below hb h0, pw_cell_below hb h1, pw_cell_below hb h2, pw_cell_below hb h3, pw_cell_below hb h4⟩
def okIs (l : List Op) : Prop := ∀ o ∈ l, isInt o.f0 ∧ isInt o.f1.f0 ∧ isInt o.f1.f1 ∧ isInt o.f1.f2
theorem draw_below {w : World} (m : Nat) : Below w.heap.size w (w.drewN m) := pw_below_drewN (Below.refl _ _) m
theorem M.less {w u : World} {ds : List Dsk} {ps : List (Nat × Array Value × TypeId)} (h : M w u ds ps) : M w u ds [] := ⟨h.bel, h.dsk, h.sep, fun _ h => by simp at h⟩
theorem run_ints {L : List Rob} {n : Int} {os : List Op} (h : ∀ r ∈ L, okN n r) (h1 : 1099511627776 ≤ n) (h2 : n + os.length ≤ 4611686018427387904) (h3 : ∀ o ∈ os, okNo o) (k : Nat) : Ints (run L (os.take k)) := fun r hr => by
  have hk : (os.take k).length ≤ os.length := by rw [List.length_take]; omega
  exact okN_int (run_ok (os.take k) L n h h1 (by omega) (fun o ho => h3 o (List.mem_of_mem_take ho)) r hr) (by omega)
section
variable (me : Int) (Am : Option Addr) (cm : Nat) (mine : List Bool) (Al : Option Addr) (cl : Nat) (l : List Op) (Ao : Option Addr) (co : Nat) (more : List Op) (w : World)
set_option maxHeartbeats 4000000 in
set_option maxRecDepth 100000 in
theorem back_early (hl : ops_ w Al l) (ho : ops_ w Ao more) (hcl : l.length ≤ cl) (hco : more.length ≤ co) (hlm : mine.length ≤ 9223372036854775807) (h : 20 < mine.length ∨ fineB l 40 = false ∨ fineB more 20 = false) :
    Calls Tryd.prog 3 #[.int .i64 me, .slice Am mine.length cm, .slice Al l.length cl, .slice Ao more.length co] w fun e w' => e = .returned (.bool true) ∧ Below w.heap.size w w' := by
  have HL := Aside0.mk hl
  have HO := Aside0.mk ho
  have F1 := Aside0.mk (fine_is l 40 hl.2.1)
  have F2 := Aside0.mk (fine_is more 20 ho.2.1)
  clear hl ho
  by_cases h1 : 20 < mine.length
  · have b1 : decide (20 < (mine.length : Int)) = true := decide_eq_true (by omega)
    have b2 : decide (20 < mine.length) = true := decide_eq_true h1
    clear h
    go_enter Tryd.func3, Tryd.ntmps3
    go_wp2_with (go_at_call 8; (with_reducible refine (small_calls _).mono ?_); rintro e w1 ⟨rfl, hb⟩; have HB := Aside0.mk hb; clear hb)
    go_ret
    exact ⟨rfl, HB.out⟩
  have b1 : decide (20 < (mine.length : Int)) = false := decide_eq_false (by omega)
  have b2 : decide (20 < mine.length) = false := decide_eq_false h1
  by_cases h2 : fineB l 40 = false
  · rw [h2] at F1
    clear h h1
    go_enter Tryd.func3, Tryd.ntmps3
    go_wp2_with fail
    (with_reducible refine (small_calls _).mono ?_)
    rintro e w1 ⟨rfl, hb⟩
    have HB := Aside0.mk hb
    clear hb
    go_wp2_with fail
    (with_reducible refine (taquinlaw45_fine.calls _ Al cl l 40 false _ (Kd.C_below HL.out HB.out) hcl F1.out).mono ?_)
    rintro e w2 ⟨rfl, m, rfl⟩
    have HB2 := Aside0.mk (below_step HB.out (draw_below m))
    generalize w1.drewN m = w2 at *
    clear HB
    go_wp2
    go_ret
    exact ⟨rfl, HB2.out⟩
  · rw [Bool.not_eq_false] at h2
    have h3 : fineB more 20 = false := (h.resolve_left h1).resolve_left (by rw [h2]; decide)
    rw [h2] at F1
    rw [h3] at F2
    clear h h1
    go_enter Tryd.func3, Tryd.ntmps3
    go_wp2_with fail
    (with_reducible refine (small_calls _).mono ?_)
    rintro e w1 ⟨rfl, hb⟩
    have HB := Aside0.mk hb
    clear hb
    go_wp2_with fail
    (with_reducible refine (taquinlaw45_fine.calls _ Al cl l 40 true _ (Kd.C_below HL.out HB.out) hcl F1.out).mono ?_)
    rintro e w2 ⟨rfl, m, rfl⟩
    have HB2 := Aside0.mk (below_step HB.out (draw_below m))
    generalize w1.drewN m = w2 at *
    clear HB
    go_wp2_with fail
    (with_reducible refine (taquinlaw45_fine.calls _ Ao co more 20 false _ (Kd.C_below HO.out HB2.out) hco F2.out).mono ?_)
    rintro e w3 ⟨rfl, m, rfl⟩
    have HB := Aside0.mk (below_step HB2.out (draw_below m))
    generalize w2.drewN m = w3 at *
    clear HB2
    go_wp2
    go_ret
    exact ⟨rfl, HB.out⟩
set_option maxHeartbeats 4000000 in
set_option maxRecDepth 100000 in
theorem back_none (hm : bools_ w Am mine) (hl : ops_ w Al l) (ho : ops_ w Ao more) (hcl : l.length ≤ cl) (hco : more.length ≤ co) (hlm : mine.length ≤ 20) (h1 : fineB l 40 = true) (h2 : fineB more 20 = true) (h0 : me ≠ 0 ∧ me ≠ 1) :
    Calls Tryd.prog 3 #[.int .i64 me, .slice Am mine.length cm, .slice Al l.length cl, .slice Ao more.length co] w fun e w' => e = .returned (.bool true) ∧ Below w.heap.size w w' := by
  have HL := Aside0.mk hl
  have HO := Aside0.mk ho
  have F1 := Aside0.mk (fine_is l 40 hl.2.1)
  have F2 := Aside0.mk (fine_is more 20 ho.2.1)
  rw [h1] at F1
  rw [h2] at F2
  have b1 : decide (20 < (mine.length : Int)) = false := decide_eq_false (by omega)
  have b2 : decide (20 < mine.length) = false := decide_eq_false (by omega)
  have b3 : (me != 0) = true := bne_iff_ne.2 h0.1
  have b4 : (me != 1) = true := bne_iff_ne.2 h0.2
  clear hl ho h1 h2
  go_enter Tryd.func3, Tryd.ntmps3
  go_wp2_with fail
  (with_reducible refine (small_calls _).mono ?_)
  rintro e w1 ⟨rfl, hb⟩
  have HB := Aside0.mk hb
  clear hb
  go_wp2_with fail
  (with_reducible refine (taquinlaw45_fine.calls _ Al cl l 40 true _ (Kd.C_below HL.out HB.out) hcl F1.out).mono ?_)
  rintro e w2 ⟨rfl, m, rfl⟩
  have HB2 := Aside0.mk (below_step HB.out (draw_below m))
  generalize w1.drewN m = w2 at *
  clear HB
  go_wp2_with fail
  (with_reducible refine (taquinlaw45_fine.calls _ Ao co more 20 true _ (Kd.C_below HO.out HB2.out) hco F2.out).mono ?_)
  rintro e w3 ⟨rfl, m, rfl⟩
  have HB := Aside0.mk (below_step HB2.out (draw_below m))
  generalize w2.drewN m = w3 at *
  clear HB2
  go_wp2_with fail
  (with_reducible refine (new_no me Am cm mine _ (by omega) (.inl h0)).mono ?_)
  rintro e w4 ⟨rfl, rfl⟩
  go_wp2
  go_ret
  exact ⟨rfl, HB.out⟩
set_option maxHeartbeats 16000000 in
set_option maxRecDepth 100000 in
theorem back_some (hm : bools_ w Am mine) (hl : ops_ w Al l) (ho : ops_ w Ao more) (hcl : l.length ≤ cl) (hco : more.length ≤ co) (hlm : mine.length ≤ 20) (h1 : fineB l 40 = true) (h2 : fineB more 20 = true) (h0 : me = 0 ∨ me = 1) (hI : okIs l) (hJ : okIs more) (hT : Tabs w) :
    Calls Tryd.prog 3 #[.int .i64 me, .slice Am mine.length cm, .slice Al l.length cl, .slice Ao more.length co] w fun e w' => e = .returned (.bool true) ∧ Below w.heap.size w w' := by
  have HL := Aside0.mk hl
  have HO := Aside0.mk ho
  have HBM := Aside0.mk hm
  have F1 := Aside0.mk (fine_is l 40 hl.2.1)
  have F2 := Aside0.mk (fine_is more 20 ho.2.1)
  rw [h1] at F1
  rw [h2] at F2
  have HI := Aside0.mk (And.intro hI hJ)
  have HT := Aside0.mk hT
  have HX := Aside0.mk (And.intro (fine_true h1) (fine_true h2))
  have hlb : l.length ≤ 9223372036854775807 := hl.2.1
  have hlb2 : more.length ≤ 9223372036854775807 := ho.2.1
  have b1 : decide (20 < (mine.length : Int)) = false := decide_eq_false (by omega)
  have b2 : decide (20 < mine.length) = false := decide_eq_false (by omega)
  have H0 := Aside0.mk h0
  have hme : (me != 0) = false ∨ ((me != 0) = true ∧ (me != 1) = false) := h0.elim (fun e => .inl (by rw [e]; rfl)) (fun e => .inr (by rw [e]; exact ⟨rfl, rfl⟩))
  have HL0 : Aside0 (∀ r ∈ mine.map rob0, okN 1099511627776 r) := ⟨fun r hr => by obtain ⟨x, _, rfl⟩ := List.mem_map.1 hr; exact rob0_ok x _ (by omega)⟩
  have HLn : Aside0 ((mine.map rob0).length ≤ 20) := ⟨by rw [List.length_map]; exact hlm⟩
  clear hl ho h1 h2 hm hI hJ hT h0
  go_enter Tryd.func3, Tryd.ntmps3
  go_wp2_with fail
  (with_reducible refine (small_calls _).mono ?_)
  rintro e w1 ⟨rfl, hb⟩
  have HB := Aside0.mk hb
  clear hb
  go_wp2_with fail
  (with_reducible refine (taquinlaw45_fine.calls _ Al cl l 40 true _ (Kd.C_below HL.out HB.out) hcl F1.out).mono ?_)
  rintro e w2 ⟨rfl, m, rfl⟩
  have HB2 := Aside0.mk (below_step HB.out (draw_below m))
  generalize w1.drewN m = w2 at *
  clear HB
  go_wp2_with fail
  (with_reducible refine (taquinlaw45_fine.calls _ Ao co more 20 true _ (Kd.C_below HO.out HB2.out) hco F2.out).mono ?_)
  rintro e w3 ⟨rfl, m, rfl⟩
  have HB := Aside0.mk (below_step HB2.out (draw_below m))
  generalize w2.drewN m = w3 at *
  clear HB2
  go_wp2_with fail
  (with_reducible refine (new_yes me Am cm mine _ (bools_below HBM.out HB.out) hme (by omega)).mono ?_)
  rintro e w4 ⟨g, v, rfl, hd, hb⟩
  have HM := Aside0.mk (((M.start w).on HB.out).add hd hb)
  clear hd hb HB HBM hme b1 b2 F1 F2
  generalize hL0 : mine.map rob0 = L0 at HM HL0 HLn
  clear hL0
  go_wp2
  go_loopw [11, 12, 13] (fun t11 _ _ wr => ∃ k : Nat, k ≤ l.length ∧ t11 = .int .i64 k ∧ Aside0 (M w wr [⟨g, me, v, run L0 (l.take k)⟩] [])) (fun t11 _ _ _ => l.length - (intOf t11).toNat)
  case atStart => exact ⟨0, Nat.zero_le _, rfl, ⟨by simpa [run] using HM.out⟩⟩
  case round =>
    clear HM
    obtain ⟨k, hk, rfl, HM⟩ := hrel
    by_cases hlt : k < l.length
    · obtain ⟨ad, rfl, q0, q1, q2, q3, q4⟩ := ops_at HL.out HM.out.bel hlt
      have hi := HI.out.1 _ (List.getElem_mem hlt)
      have HPB := Aside0.mk (passBytes_is hi.2.1 hi.2.2.1 hi.2.2.2)
      have HRP := Aside0.mk (readPass_is hi.2.1 hi.2.2.1 hi.2.2.2)
      have HS := Aside0.mk (run_snoc L0 l k hlt)
      clear hi
      go_wp2_with fail
      (with_reducible refine (seam_PassBytes.calls _ _ _ _ _ HPB.out (HT.out.below HM.out.bel)).mono ?_)
      rintro e w5 ⟨rfl, hb⟩
      have HM5 := Aside0.mk (HM.out.on hb)
      clear hb HM
      go_wp2_with fail
      (with_reducible refine (seam_ReadPass.calls _ _ _ _ _ _ HRP.out (HT.out.below HM5.out.bel)).mono ?_)
      rintro e w6 ⟨rfl, hb⟩
      have HM6 := Aside0.mk (HM5.out.on hb)
      clear hb HM5
      obtain ⟨ad', he', q0, q1, q2, q3, q4⟩ := ops_at HL.out HM6.out.bel hlt
      obtain rfl := Option.some.inj he'
      go_wp2_with fail
      have HM7 := Aside0.mk (HM6.out.new #[.int .i64 l[k].f1.f0, .int .i64 l[k].f1.f1, .int .i64 l[k].f1.f2] 29 (by decide))
      clear HM6 q0 q1 q2 q3 q4
      obtain ⟨ad', he', q0, q1, q2, q3, q4⟩ := ops_at HL.out HM7.out.bel hlt
      obtain rfl := Option.some.inj he'
      have z0 := (blk_cell (HM7.out.blks _ List.mem_cons_self).1 0).trans rfl
      have z1 := (blk_cell (HM7.out.blks _ List.mem_cons_self).1 1).trans rfl
      have z2 := (blk_cell (HM7.out.blks _ List.mem_cons_self).1 2).trans rfl
      generalize hW : World.alloc w6 _ = w7 at *
      clear hW
      go_quiet (fail)
      have HM8 := Aside0.mk (HM7.out.on (draw_below nq)).less
      clear q0 q1 q2 q3 q4 z0 z1 z2 HM7
      generalize World.drewN w7 nq = w8 at HM8 ⊢
      obtain ⟨ad', he', q0, q1, q2, q3, q4⟩ := ops_at HL.out HM8.out.bel hlt
      obtain rfl := Option.some.inj he'
      go_wp2_with fail
      (with_reducible refine (do_calls w.heap.size g me v (run L0 (l.take k)) l[k].f0 l[k].f1.f0 l[k].f1.f1 l[k].f1.f2 l[k].f2 _ (HM8.out.dsk _ List.mem_cons_self) (by rw [run_len]; have := HLn.out; omega)).mono ?_)
      rintro e w9 ⟨rfl, hd, hg⟩
      have HM9 : Aside0 (M w w9 [⟨g, me, v, run L0 (l.take (k + 1))⟩] []) := ⟨by rw [HS.out]; exact M.upd (xs := []) HM8.out hd hg⟩
      clear hd hg q0 q1 q2 q3 q4 HM8
      go_wp2
      go_roundw
      case rel => exact ⟨k + 1, by omega, by go_num, HM9⟩
      case measure => simp [intOf]; omega
    · obtain rfl : k = l.length := by omega
      rw [List.take_length] at HM
      have HK : Aside0 (∀ r ∈ run L0 l, okN 1099511627816 r) := ⟨fun r hr => (run_ok l L0 _ HL0.out (by omega) (by have := HX.out.1.2; omega) HX.out.1.1 r hr).mono (by have := HX.out.1.2; omega)⟩
      have HN : Aside0 ((run L0 l).length ≤ 20) := ⟨by rw [run_len]; exact HLn.out⟩
      clear hlt HL0 HLn
      generalize hLF : run L0 l = LF at HM HK HN
      clear hLF
      have HR : Aside0 (rdDesk (encDesk me LF) = some (me, LF)) := ⟨read_enc H0.out (by have := HN.out; omega) (fun r hr => okN_rob (HK.out r hr) (by omega))⟩
      have hmi : isInt me := by rcases H0.out with rfl | rfl <;> exact ⟨by decide, by decide⟩
      have HIF : Aside0 (isInt me ∧ Ints LF) := ⟨hmi, fun r hr => okN_int (HK.out r hr) (by omega)⟩
      have HSZ : Aside0 ((encDesk me LF).length ≤ 100000000) := ⟨by have := acc_le hmi HIF.out.2 (by have := HN.out; omega) LF.length; unfold acc at this; rw [List.take_length] at this; unfold encDesk; omega⟩
      have HRI : Aside0 (∀ k, Ints (run LF (more.take k))) := ⟨run_ints HK.out (by omega) (by have := HX.out.2.2; omega) HX.out.2.1⟩
      clear hmi
      go_wp2_with fail
      (with_reducible refine (bytes_calls w.heap.size g me v LF _ (HM.out.dsk _ List.mem_cons_self) (by have := HN.out; omega) HIF.out.1 HIF.out.2 (HT.out.below HM.out.bel)).mono ?_)
      rintro e w5 ⟨rfl, hb⟩
      have HM5 := Aside0.mk (HM.out.on hb)
      clear hb HM
      go_wp2_with fail
      (with_reducible refine (read_calls (encDesk me LF) _ HSZ.out (HT.out.below HM5.out.bel)).mono ?_)
      rintro e w6 ⟨hb, hpost⟩
      rw [HR.out] at hpost
      obtain ⟨ga, va, rfl, hd⟩ := hpost
      have HM6 := Aside0.mk (HM5.out.add hd hb)
      clear hb hd HM5
      go_wp2_with fail
      (with_reducible refine (copy_calls w.heap.size g me v LF _ (HM6.out.dsk _ (List.mem_cons_of_mem _ List.mem_cons_self)) (by have := HN.out; omega)).mono ?_)
      rintro e w7 ⟨gb, vb, rfl, hd, hb⟩
      have HM7 := Aside0.mk (HM6.out.add hd hb)
      clear hb hd HM6
      go_wp2_with fail
      go_loopw [17] (fun t17 wr => ∃ k : Nat, k ≤ more.length ∧ t17 = .int .i64 k ∧ Aside0 (M w wr [⟨gb, me, vb, run LF (more.take k)⟩, ⟨ga, me, va, run LF (more.take k)⟩, ⟨g, me, v, LF⟩] [])) (fun t17 _ => more.length - (intOf t17).toNat)
      case atStart => exact ⟨0, Nat.zero_le _, rfl, ⟨by simpa [run] using HM7.out⟩⟩
      case round =>
        clear HM7
        obtain ⟨k, hk, rfl, HM⟩ := hrel
        by_cases hlt : k < more.length
        · obtain ⟨ad, rfl, q0, q1, q2, q3, q4⟩ := ops_at HO.out HM.out.bel hlt
          have HS := Aside0.mk (run_snoc LF more k hlt)
          have hll : (run LF (more.take k)).length ≤ 1000000 := by rw [run_len]; have := HN.out; omega
          go_wp2_with fail
          (with_reducible refine (do_calls w.heap.size ga me va (run LF (more.take k)) more[k].f0 more[k].f1.f0 more[k].f1.f1 more[k].f1.f2 more[k].f2 _ (HM.out.dsk _ (List.mem_cons_of_mem _ List.mem_cons_self)) hll).mono ?_)
          rintro e w9 ⟨rfl, hd, hg⟩
          have HM9 : Aside0 (M w w9 [⟨gb, me, vb, run LF (more.take k)⟩, ⟨ga, me, va, run LF (more.take (k + 1))⟩, ⟨g, me, v, LF⟩] []) := ⟨by rw [HS.out]; exact M.upd (xs := [⟨gb, me, vb, run LF (more.take k)⟩]) HM.out hd hg⟩
          clear hd hg q0 q1 q2 q3 q4 HM
          obtain ⟨ad', he', q0, q1, q2, q3, q4⟩ := ops_at HO.out HM9.out.bel hlt
          obtain rfl := Option.some.inj he'
          go_wp2_with fail
          (with_reducible refine (do_calls w.heap.size gb me vb (run LF (more.take k)) more[k].f0 more[k].f1.f0 more[k].f1.f1 more[k].f1.f2 more[k].f2 _ (HM9.out.dsk _ List.mem_cons_self) hll).mono ?_)
          rintro e w10 ⟨rfl, hd, hg⟩
          have HM10 : Aside0 (M w w10 [⟨gb, me, vb, run LF (more.take (k + 1))⟩, ⟨ga, me, va, run LF (more.take (k + 1))⟩, ⟨g, me, v, LF⟩] []) := ⟨by
            have := M.upd (xs := []) HM9.out hd hg
            rw [HS.out] at this ⊢; exact this⟩
          clear hd hg q0 q1 q2 q3 q4 HM9 hll
          have hll : (run LF (more.take (k + 1))).length ≤ 1000000 := by rw [run_len]; have := HN.out; omega
          go_wp2_with fail
          (with_reducible refine (bytes_calls w.heap.size ga me va (run LF (more.take (k + 1))) _ (HM10.out.dsk _ (List.mem_cons_of_mem _ List.mem_cons_self)) hll HIF.out.1 (HRI.out _) (HT.out.below HM10.out.bel)).mono ?_)
          rintro e w11 ⟨rfl, hb⟩
          have HM11 := Aside0.mk (HM10.out.on hb)
          clear hb HM10
          go_wp2_with fail
          (with_reducible refine (bytes_calls w.heap.size gb me vb (run LF (more.take (k + 1))) _ (HM11.out.dsk _ List.mem_cons_self) hll HIF.out.1 (HRI.out _) (HT.out.below HM11.out.bel)).mono ?_)
          rintro e w12 ⟨rfl, hb⟩
          have HM12 := Aside0.mk (HM11.out.on hb)
          clear hb HM11
          generalize B (encDesk me (run LF (more.take (k + 1)))) = bs
          go_wp2
          go_roundw
          case rel => exact ⟨k + 1, by omega, by go_num, HM12⟩
          case measure => simp [intOf]; omega
        · obtain rfl : k = more.length := by omega
          rw [List.take_length] at HM
          clear hlt
          have hll : (run LF more).length ≤ 1000000 := by rw [run_len]; have := HN.out; omega
          go_wp2_with fail
          (with_reducible refine (bytes_calls w.heap.size g me v LF _ (HM.out.dsk _ (List.mem_cons_of_mem _ (List.mem_cons_of_mem _ List.mem_cons_self))) (by have := HN.out; omega) HIF.out.1 HIF.out.2 (HT.out.below HM.out.bel)).mono ?_)
          rintro e w8 ⟨rfl, hb⟩
          have HM8 := Aside0.mk (HM.out.on hb)
          clear hb HM
          obtain ⟨bs, hbs⟩ : ∃ s, s = B (encDesk me LF) := ⟨_, rfl⟩
          rw [← hbs]
          have HBS := Aside0.mk hbs
          clear hbs
          go_wp2
          go_loopw [19] (fun t19 wr => ∃ k : Nat, k ≤ more.length ∧ t19 = .int .i64 k ∧ Aside0 (M w wr [⟨gb, me, vb, run LF more⟩, ⟨ga, me, va, run LF more⟩, ⟨g, me, v, run LF (more.take k)⟩] [])) (fun t19 _ => more.length - (intOf t19).toNat)
          case atStart => exact ⟨0, Nat.zero_le _, rfl, ⟨by simpa [run] using HM8.out⟩⟩
          case round =>
            clear HM8 hll
            obtain ⟨k, hk, rfl, HM⟩ := hrel
            by_cases hlt : k < more.length
            · obtain ⟨ad, rfl, q0, q1, q2, q3, q4⟩ := ops_at HO.out HM.out.bel hlt
              have HS := Aside0.mk (run_snoc LF more k hlt)
              have hll : (run LF (more.take k)).length ≤ 1000000 := by rw [run_len]; have := HN.out; omega
              go_wp2_with fail
              (with_reducible refine (do_calls w.heap.size g me v (run LF (more.take k)) more[k].f0 more[k].f1.f0 more[k].f1.f1 more[k].f1.f2 more[k].f2 _ (HM.out.dsk _ (List.mem_cons_of_mem _ (List.mem_cons_of_mem _ List.mem_cons_self))) hll).mono ?_)
              rintro e w9 ⟨rfl, hd, hg⟩
              have HM9 : Aside0 (M w w9 [⟨gb, me, vb, run LF more⟩, ⟨ga, me, va, run LF more⟩, ⟨g, me, v, run LF (more.take (k + 1))⟩] []) := ⟨by rw [HS.out]; exact M.upd (xs := [⟨gb, me, vb, run LF more⟩, ⟨ga, me, va, run LF more⟩]) HM.out hd hg⟩
              clear hd hg q0 q1 q2 q3 q4 HM
              go_wp2
              go_roundw
              case rel => exact ⟨k + 1, by omega, by go_num, HM9⟩
              case measure => simp [intOf]; omega
            · obtain rfl : k = more.length := by omega
              rw [List.take_length] at HM
              clear hlt
              have hll : (run LF more).length ≤ 1000000 := by rw [run_len]; have := HN.out; omega
              have hri : Ints (run LF more) := by have := HRI.out more.length; rwa [List.take_length] at this
              go_wp2_with fail
              rw [HBS.out]
              (with_reducible refine (read_calls (encDesk me LF) _ HSZ.out (HT.out.below HM.out.bel)).mono ?_)
              rintro e w9 ⟨hb, hpost⟩
              rw [HR.out] at hpost
              obtain ⟨gc, vc, rfl, _⟩ := hpost
              have HM9 := Aside0.mk (HM.out.on hb)
              clear hb HM
              go_wp2_with fail
              (with_reducible refine (bytes_calls w.heap.size g me v (run LF more) _ (HM9.out.dsk _ (List.mem_cons_of_mem _ (List.mem_cons_of_mem _ List.mem_cons_self))) hll HIF.out.1 hri (HT.out.below HM9.out.bel)).mono ?_)
              rintro e w10 ⟨rfl, hb⟩
              have HM10 := Aside0.mk (HM9.out.on hb)
              clear hb HM9
              go_wp2_with fail
              (with_reducible refine (bytes_calls w.heap.size ga me va (run LF more) _ (HM10.out.dsk _ (List.mem_cons_of_mem _ List.mem_cons_self)) hll HIF.out.1 hri (HT.out.below HM10.out.bel)).mono ?_)
              rintro e w11 ⟨rfl, hb⟩
              have HM11 := Aside0.mk (HM10.out.on hb)
              clear hb HM10
              generalize B (encDesk me (run LF more)) = bs2
              go_wp2
              go_ret
              exact ⟨rfl, HM11.out.bel⟩
theorem back_all (hm : bools_ w Am mine) (hl : ops_ w Al l) (ho : ops_ w Ao more) (hcl : l.length ≤ cl) (hco : more.length ≤ co) (hI : okIs l) (hJ : okIs more) (hT : Tabs w) :
    Calls Tryd.prog 3 #[.int .i64 me, .slice Am mine.length cm, .slice Al l.length cl, .slice Ao more.length co] w fun e w' => e = .returned (.bool true) ∧ Below w.heap.size w w' := by
  by_cases h : 20 < mine.length ∨ fineB l 40 = false ∨ fineB more 20 = false
  · exact back_early me Am cm mine Al cl l Ao co more w hl ho hcl hco hm.2.1 h
  · have h1 : mine.length ≤ 20 := by omega
    have h2 : fineB l 40 = true := by
      cases hx : fineB l 40 with
      | true => rfl
      | false => exact absurd (.inr (.inl hx)) h
    have h3 : fineB more 20 = true := by
      cases hx : fineB more 20 with
      | true => rfl
      | false => exact absurd (.inr (.inr hx)) h
    by_cases h0 : me ≠ 0 ∧ me ≠ 1
    · exact back_none me Am cm mine Al cl l Ao co more w hm hl ho hcl hco h1 h2 h3 h0
    · exact back_some me Am cm mine Al cl l Ao co more w hm hl ho hcl hco h1 h2 h3 (by omega) hI hJ hT
end
end Go.Proofs.YtdgbfaflepiagaaDoor.Seam
