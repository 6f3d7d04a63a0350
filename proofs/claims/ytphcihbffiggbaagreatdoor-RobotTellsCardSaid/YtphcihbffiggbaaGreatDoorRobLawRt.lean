/- RobotTells: the law's own walk: given what each function that it calls answers, it returns true, and leaves what was there as it was. -/
import Derived.Test.YtphcihbffiggbaaGreatDoorMem
import Derived.Test.YtphcihbffiggbaaGreatDoorRobPureVRt
import Derived.Test.YtphcihbffiggbaaGreatDoorRobSmallRt
import Derived.Test.YtphcihbffiggbaaGreatDoorPRtx8
import Derived.Test.YtphcihbffiggbaaGreatDoorPRtx9
import Derived.Test.YtphcihbffiggbaaGreatDoorPRtx13
import Derived.Test.YtphcihbffiggbaaGreatDoorPRtx3
import Derived.Test.YtphcihbffiggbaaGreatDoorPRtx11
import Derived.Test.YtphcihbffiggbaaGreatDoorPRtx4
import Derived.Test.YtphcihbffiggbaaGreatDoorPRtx14
import Derived.Test.YtphcihbffiggbaaGreatDoorPRtx10
import Derived.Test.YtphcihbffiggbaaGreatDoorPRtx15
import Derived.Test.YtphcihbffiggbaaGreatDoorPRtx16
namespace Go.Proofs.YtphcihbffiggbaaGreatDoor.RobLawRt
open Go.RowKit Go.Proofs.YtphcihbffiggbaaGreatDoor Go.Proofs.YtphcihbffiggbaaGreatDoor.PRt Go.Proofs.YtphcihbffiggbaaGreatDoor.RobPureRt Go.Proofs.YtphcihbffiggbaaGreatDoor.Opens Go.Proofs.YtphcihbffiggbaaGreatDoorW.PrintWords Go.Proofs.YtphcihbffiggbaaGreatDoorW.PrintLast Go.Proofs.YtphcihbffiggbaaGreatDoorW.PrintMore
set_option linter.unusedVariables false
set_option linter.unusedSimpArgs false
theorem reads {e : TypeId} {W' : World} {base : Nat} {ok : Nat → Prop} {v : Value} {xs : List Int} (h : Kd.R (Kd.int .i64) e W' base ok v xs) : ∃ A c, v = .slice A xs.length c ∧ xs.length ≤ c ∧ Kd.C (Kd.int .i64) W' A xs.length xs := Kd.R_reads h
theorem readsV {e : TypeId} {W' : World} {base : Nat} {ok : Nat → Prop} {v : Value} {xs : List Int} (h : Kd.V (Kd.int .i64) e W' base ok v xs) : ∃ A c, v = .slice A xs.length c ∧ xs.length ≤ c ∧ Kd.C (Kd.int .i64) W' A xs.length xs := by
  obtain ⟨A, c, e1, e2, hf⟩ := h
  exact ⟨A, c, e1, e2, Kd.F_now hf⟩
theorem readsQ {e : TypeId} {W' : World} {base : Nat} {ok : Nat → Prop} {v : Value} {xs : List Int} (h : Kd.Q (Kd.int .i64) e W' base ok v xs) : ∃ A c, v = .slice A xs.length c ∧ xs.length ≤ c ∧ Kd.C (Kd.int .i64) W' A xs.length xs := readsV (base := base) (e := e) (Kd.Q_V h)
theorem shared {e : TypeId} {W' : World} {base : Nat} {A : Option Addr} {c : Nat} {xs : List Int} (hc : xs.length ≤ c) (h : Kd.C (Kd.int .i64) W' A xs.length xs) : Kd.V (Kd.int .i64) e W' base (fun _ => True) (.slice A xs.length c) xs := ⟨A, c, rfl, hc, foot_ints h⟩
theorem none_ (W' : World) (A : Option Addr) : Kd.C (Kd.int .i64) W' A ([] : List Int).length [] := ⟨rfl, by simp, fun h => absurd h (Nat.lt_irrefl 0)⟩
theorem same0 (act : Int) (B : Option Addr) (d : Nat) (w : World) : Calls Tryz.prog 8 #[.agg #[.int .i64 act, .slice B 0 d], .agg #[.int .i64 act, .slice none 0 0]] w fun e w' => e = .returned (.bool true) ∧ Below w.heap.size w w' :=
  taquinref22_Same.calls 1002 act B d [] act none 0 [] true w (none_ _ _) (by simp) (none_ _ _) (by simp) (ref22_t act [] (by simp) (by simp))
structure More (W H D : Int) (kd ot : List Int) (c : Int) (q acts : List Int) (act : Int) (done : Bool) : Prop where
  out : ∃ (xh : Int) (yh : List Int) (eh : Int) (l : List Int) (a : Int) (s : ByteArray) (x1 : Int) (y1 : List Int) (x2 : Int) (y2 : List Int) (m1 m2 m3 m4 m5 m6 m7 m8 m9 : Nat), yh.length ≤ 1000 ∧ l.length ≤ 1000 ∧ y1.length ≤ 1000 ∧ y2.length ≤ 1000 ∧
    robot_Hear.f m1 W H D kd ot c q acts = some (xh, yh, eh) ∧ taquinref22_Hear.f m2 W H D kd ot c q acts = some (xh, yh, eh) ∧ taquinref22_Way.f m3 W H D kd ot c q = some (l, true) ∧ robot_Way.f m4 W H D kd ot c q = some l ∧ robot_Next.f c q = some a ∧ taquinref22_Next.f c q = some a ∧
    robot_Bytes.f c q = some s ∧ taquinref22_Bytes.f m5 c q = some s ∧ robot_Did.f m6 W H D kd ot c q act done = some (x1, y1) ∧ taquinref22_Did.f m7 W H D kd ot c q act done = some (x1, y1) ∧ robot_Did.f m8 W H D kd ot c q a done = some (x2, y2) ∧ taquinref22_Did.f m9 W H D kd ot c q a done = some (x2, y2)
section
variable (W H D : Int) (A3 : Option Addr) (c3 : Nat) (kd : List Int) (A4 : Option Addr) (c4 : Nat) (ot : List Int) (c : Int) (A1 : Option Addr) (c1 : Nat) (q : List Int) (A2 : Option Addr) (c2 : Nat) (acts : List Int) (act : Int) (done : Bool) (t : ByteArray) (w : World)
set_option maxHeartbeats 2000000 in
set_option maxRecDepth 100000 in
theorem early (hs : Rs w [(A3, kd), (A4, ot), (A1, q), (A2, acts)]) (h3 : kd.length ≤ c3) (h4 : ot.length ≤ c4) (h1 : q.length ≤ c1) (h2 : acts.length ≤ c2) (few : taquinlaw22_few.f 100 W H D kd ot c q = some false) :
    Calls Tryz.prog 3 #[.agg #[.int .i64 W, .int .i64 H, .int .i64 D, .slice A3 kd.length c3, .slice A4 ot.length c4], .agg #[.int .i64 c, .slice A1 q.length c1], .slice A2 acts.length c2, .int .i64 act, .bool done, .string t] w fun e w' => e = .returned (.bool true) ∧ Below w.heap.size w w' := by
  have HS := Aside0.mk (St.mk (Below.refl _ _) (show Cs w [] from trivial) hs)
  clear hs
  have FEW := Aside0.mk few
  clear few
  go_enter Tryz.func3, Tryz.ntmps3
  go_wp2_with fail
  replace HS := Aside0.mk ((HS.out.new5 w.heap.size rfl (.int .i64 W) (.int .i64 H) (.int .i64 D) (.slice A3 kd.length c3) (.slice A4 ot.length c4) 24).new2 (w.heap.size + 1) (by simp) (.int .i64 c) (.slice A1 q.length c1) 26)
  refine (Go.Proofs.YtphcihbffiggbaaGreatDoor.RobSmallRt.holds _).mono ?_
  rintro e w1 ⟨rfl, hb⟩
  replace HS := Aside0.mk (HS.out.below hb)
  clear hb
  obtain ⟨k0, k1, k2, k3, k4, k5, k6, _⟩ := HS.out.cells
  go_wp2_with fail
  refine (taquinlaw22_few.calls 100 _ _ _ _ _ _ _ _ _ _ _ _ _ false _ HS.out.rows.g h3 HS.out.rows.t.g h4 HS.out.rows.t.t.g h1 FEW.out).mono ?_
  rintro e w2 ⟨rfl, hb⟩
  replace HS := Aside0.mk (HS.out.below hb)
  clear hb k0 k1 k2 k3 k4 k5 k6
  go_wp2
  go_ret
  exact ⟨rfl, HS.out.bel⟩
set_option maxHeartbeats 2000000 in
set_option maxRecDepth 100000 in
theorem long (hs : Rs w [(A3, kd), (A4, ot), (A1, q), (A2, acts)]) (h3 : kd.length ≤ c3) (h4 : ot.length ≤ c4) (h1 : q.length ≤ c1) (h2 : acts.length ≤ c2) (few : taquinlaw22_few.f 100 W H D kd ot c q = some true) (hx : 10 < (acts.length : Int) ∨ 300 < (t.size : Int)) :
    Calls Tryz.prog 3 #[.agg #[.int .i64 W, .int .i64 H, .int .i64 D, .slice A3 kd.length c3, .slice A4 ot.length c4], .agg #[.int .i64 c, .slice A1 q.length c1], .slice A2 acts.length c2, .int .i64 act, .bool done, .string t] w fun e w' => e = .returned (.bool true) ∧ Below w.heap.size w w' := by
  have HS := Aside0.mk (St.mk (Below.refl _ _) (show Cs w [] from trivial) hs)
  clear hs
  have FEW := Aside0.mk few
  clear few
  have hc : decide (10 < (acts.length : Int)) = true ∨ (decide (10 < (acts.length : Int)) = false ∧ decide (300 < (t.size : Int)) = true) := by
    by_cases h : 10 < (acts.length : Int)
    · exact .inl (decide_eq_true h)
    · exact .inr ⟨decide_eq_false h, decide_eq_true (by omega)⟩
  clear hx
  rcases hc with hc | ⟨hc, hc'⟩
  all_goals
    go_enter Tryz.func3, Tryz.ntmps3
    go_wp2_with fail
    replace HS := Aside0.mk ((HS.out.new5 w.heap.size rfl (.int .i64 W) (.int .i64 H) (.int .i64 D) (.slice A3 kd.length c3) (.slice A4 ot.length c4) 24).new2 (w.heap.size + 1) (by simp) (.int .i64 c) (.slice A1 q.length c1) 26)
    refine (Go.Proofs.YtphcihbffiggbaaGreatDoor.RobSmallRt.holds _).mono ?_
    rintro e w1 ⟨rfl, hb⟩
    replace HS := Aside0.mk (HS.out.below hb)
    clear hb
    obtain ⟨k0, k1, k2, k3, k4, k5, k6, _⟩ := HS.out.cells
    go_wp2_with fail
    refine (taquinlaw22_few.calls 100 _ _ _ _ _ _ _ _ _ _ _ _ _ true _ HS.out.rows.g h3 HS.out.rows.t.g h4 HS.out.rows.t.t.g h1 FEW.out).mono ?_
    rintro e w2 ⟨rfl, hb⟩
    replace HS := Aside0.mk (HS.out.below hb)
    clear hb k0 k1 k2 k3 k4 k5 k6
    go_wp2
    go_ret
    exact ⟨rfl, HS.out.bel⟩
set_option maxHeartbeats 8000000 in
set_option maxRecDepth 100000 in
theorem main (hs : Rs w [(A3, kd), (A4, ot), (A1, q), (A2, acts)]) (h3 : kd.length ≤ c3) (h4 : ot.length ≤ c4) (h1 : q.length ≤ c1) (h2 : acts.length ≤ c2) (hT : Tabs w) (few : taquinlaw22_few.f 100 W H D kd ot c q = some true) (ha : acts.length ≤ 10) (ht : t.size ≤ 300)
    (x : Int) (y : List Int) (b : Bool) (hy : y.length ≤ 1000) (kr kr' : Nat) (hr : robot_Read.f kr W H D kd ot t = some (x, y, b)) (hr' : taquinref22_Read.f kr' W H D kd ot t = some (x, y, b))
    (b2 : Bool) (k9 k10 : Nat) (hright : robot_Right.f k9 W H D kd ot c q = some b2) (hright' : taquinref22_Right.f k10 W H D kd ot c q = some b2)
    (hx : b2 = true → More W H D kd ot c q acts act done) :
    Calls Tryz.prog 3 #[.agg #[.int .i64 W, .int .i64 H, .int .i64 D, .slice A3 kd.length c3, .slice A4 ot.length c4], .agg #[.int .i64 c, .slice A1 q.length c1], .slice A2 acts.length c2, .int .i64 act, .bool done, .string t] w fun e w' => e = .returned (.bool true) ∧ Below w.heap.size w w' := by
  have HS := Aside0.mk (St.mk (Below.refl _ _) (show Cs w [] from trivial) hs)
  clear hs
  have FEW := Aside0.mk few
  clear few
  have HT := Aside0.mk hT
  clear hT
  have hc : decide (10 < (acts.length : Int)) = false := decide_eq_false (by omega)
  have hc' : decide (300 < (t.size : Int)) = false := decide_eq_false (by omega)
  clear ha ht
  go_enter Tryz.func3, Tryz.ntmps3
  go_wp2_with fail
  replace HS := Aside0.mk ((HS.out.new5 w.heap.size rfl (.int .i64 W) (.int .i64 H) (.int .i64 D) (.slice A3 kd.length c3) (.slice A4 ot.length c4) 24).new2 (w.heap.size + 1) (by simp) (.int .i64 c) (.slice A1 q.length c1) 26)
  refine (Go.Proofs.YtphcihbffiggbaaGreatDoor.RobSmallRt.holds _).mono ?_
  rintro e w1 ⟨rfl, hb⟩
  replace HS := Aside0.mk (HS.out.below hb)
  clear hb
  obtain ⟨k0, k1, k2, k3, k4, k5, k6, _⟩ := HS.out.cells
  go_wp2_with fail
  refine (taquinlaw22_few.calls 100 _ _ _ _ _ _ _ _ _ _ _ _ _ true _ HS.out.rows.g h3 HS.out.rows.t.g h4 HS.out.rows.t.t.g h1 FEW.out).mono ?_
  rintro e w2 ⟨rfl, hb⟩
  replace HS := Aside0.mk (HS.out.below hb)
  clear hb k0 k1 k2 k3 k4 k5 k6
  obtain ⟨k0, k1, k2, k3, k4, k5, k6, _⟩ := HS.out.cells
  go_wp2_with fail
  refine (robot_Read.calls kr _ _ _ _ _ _ _ _ _ _ x y b _ HS.out.rows.g h3 HS.out.rows.t.g h4 hr (HT.out.below HS.out.bel)).mono ?_
  rintro e w3 ⟨v, rfl, ho, hb⟩
  obtain ⟨B1, d1, rfl, g1, ho⟩ := reads ho
  replace HS := Aside0.mk (((HS.out.below hb).row ho).new2 w3.heap.size rfl (.int .i64 x) (.slice B1 y.length d1) 26)
  clear hb ho k0 k1 k2 k3 k4 k5 k6
  obtain ⟨_, _, k0, k1, k2, k3, k4, k5, k6, _⟩ := HS.out.cells
  go_wp2_with fail
  refine (taquinref22_Read.calls kr' _ _ _ _ _ _ _ _ _ _ x y b _ HS.out.rows.t.g h3 HS.out.rows.t.t.g h4 hr').mono ?_
  rintro e w4 ⟨v, rfl, ho, hb⟩
  obtain ⟨B2, d2, rfl, g2, ho⟩ := reads ho
  replace HS := Aside0.mk (((HS.out.below hb).row ho).new2 w4.heap.size rfl (.int .i64 x) (.slice B2 y.length d2) 26)
  clear hb ho k0 k1 k2 k3 k4 k5 k6
  have hbb : (b != b) = false := by simp
  have hbb2 : (b2 != b2) = false := by simp
  go_wp2_with fail
  generalize hW : w4.alloc _ = w5 at HS ⊢
  clear hW
  obtain ⟨I, hI, hb, hc, hr, hl⟩ : ∃ I : World → Prop, I w5 ∧ (∀ u v, I u → Below u.heap.size u v → I v) ∧ (∀ u, I u → Cs u [(⟨w4.heap.size, 0, none⟩, .int .i64 x), (⟨w4.heap.size, 1, none⟩, .slice B2 y.length d2), (⟨w3.heap.size, 0, none⟩, .int .i64 x), (⟨w3.heap.size, 1, none⟩, .slice B1 y.length d1), (⟨w.heap.size + 1, 0, none⟩, .int .i64 c), (⟨w.heap.size + 1, 1, none⟩, .slice A1 q.length c1), (⟨w.heap.size, 0, none⟩, .int .i64 W), (⟨w.heap.size, 1, none⟩, .int .i64 H), (⟨w.heap.size, 2, none⟩, .int .i64 D), (⟨w.heap.size, 3, none⟩, .slice A3 kd.length c3), (⟨w.heap.size, 4, none⟩, .slice A4 ot.length c4)]) ∧ (∀ u, I u → Rs u [(B2, y), (B1, y), (A3, kd), (A4, ot), (A1, q), (A2, acts)]) ∧ (∀ u, I u → Below w.heap.size w u) :=
    ⟨fun u => St w u [(⟨w4.heap.size, 0, none⟩, .int .i64 x), (⟨w4.heap.size, 1, none⟩, .slice B2 y.length d2), (⟨w3.heap.size, 0, none⟩, .int .i64 x), (⟨w3.heap.size, 1, none⟩, .slice B1 y.length d1), (⟨w.heap.size + 1, 0, none⟩, .int .i64 c), (⟨w.heap.size + 1, 1, none⟩, .slice A1 q.length c1), (⟨w.heap.size, 0, none⟩, .int .i64 W), (⟨w.heap.size, 1, none⟩, .int .i64 H), (⟨w.heap.size, 2, none⟩, .int .i64 D), (⟨w.heap.size, 3, none⟩, .slice A3 kd.length c3), (⟨w.heap.size, 4, none⟩, .slice A4 ot.length c4)] [(B2, y), (B1, y), (A3, kd), (A4, ot), (A1, q), (A2, acts)], HS.out, fun _ _ h hb => h.below hb, fun _ h => h.cells, fun _ h => h.rows, fun _ h => h.bel⟩
  have IB := Aside0.mk hb
  have HC := Aside0.mk hc
  have HR := Aside0.mk hr
  have HL := Aside0.mk hl
  clear hb hc hr hl HS
  have toS : Aside0 (∀ w', I w' → (fun w' => w'.cell? ⟨w4.heap.size, 0, none⟩ = some (.int .i64 x) ∧ w'.cell? ⟨w4.heap.size, 1, none⟩ = some (.slice B2 y.length d2) ∧ w'.cell? ⟨w3.heap.size, 0, none⟩ = some (.int .i64 x) ∧ w'.cell? ⟨w3.heap.size, 1, none⟩ = some (.slice B1 y.length d1) ∧ w'.cell? ⟨w.heap.size + 1, 0, none⟩ = some (.int .i64 c) ∧ w'.cell? ⟨w.heap.size + 1, 1, none⟩ = some (.slice A1 q.length c1) ∧ w'.cell? ⟨w.heap.size, 0, none⟩ = some (.int .i64 W) ∧ w'.cell? ⟨w.heap.size, 1, none⟩ = some (.int .i64 H) ∧ w'.cell? ⟨w.heap.size, 2, none⟩ = some (.int .i64 D) ∧ w'.cell? ⟨w.heap.size, 3, none⟩ = some (.slice A3 kd.length c3) ∧ w'.cell? ⟨w.heap.size, 4, none⟩ = some (.slice A4 ot.length c4) ∧ I w') w') := ⟨fun w' h => by obtain ⟨z0, z1, z2, z3, z4, z5, z6, z7, z8, z9, z10, _⟩ := HC.out w' h; exact ⟨z0, z1, z2, z3, z4, z5, z6, z7, z8, z9, z10, h⟩⟩
  have hd : I w5.drew := IB.out _ _ hI (below_drew (Below.refl _ _))
  have hS := toS.out _ hd
  clear hI hd
  go_region_held3 (fun w' => w'.cell? ⟨w4.heap.size, 0, none⟩ = some (.int .i64 x) ∧ w'.cell? ⟨w4.heap.size, 1, none⟩ = some (.slice B2 y.length d2) ∧ w'.cell? ⟨w3.heap.size, 0, none⟩ = some (.int .i64 x) ∧ w'.cell? ⟨w3.heap.size, 1, none⟩ = some (.slice B1 y.length d1) ∧ w'.cell? ⟨w.heap.size + 1, 0, none⟩ = some (.int .i64 c) ∧ w'.cell? ⟨w.heap.size + 1, 1, none⟩ = some (.slice A1 q.length c1) ∧ w'.cell? ⟨w.heap.size, 0, none⟩ = some (.int .i64 W) ∧ w'.cell? ⟨w.heap.size, 1, none⟩ = some (.int .i64 H) ∧ w'.cell? ⟨w.heap.size, 2, none⟩ = some (.int .i64 D) ∧ w'.cell? ⟨w.heap.size, 3, none⟩ = some (.slice A3 kd.length c3) ∧ w'.cell? ⟨w.heap.size, 4, none⟩ = some (.slice A4 ot.length c4) ∧ I w') (first | assumption | exact toS.out _ HI) (first
    | (go_split_ands; go_at_call 8; (with_reducible refine (taquinref22_Same.calls 1002 x B1 d1 y x B2 d2 y true _ ?c1 g1 ?c2 g2 (ref22_t x y hy (by omega))).mono ?_); (case c1 => exact (HR.out _ (by assumption)).2.1); (case c2 => exact (HR.out _ (by assumption)).1); rintro e w6 ⟨rfl, hb⟩; have HI := IB.out _ _ (by assumption) hb; clear hb)
    | (go_split_ands; go_at_call 9; (with_reducible refine (robot_Right.calls k9 _ _ _ _ _ _ _ _ _ _ _ _ _ b2 _ ?c1 h3 ?c2 h4 ?c3 h1 hright).mono ?_); (case c1 => exact (HR.out _ (by assumption)).2.2.1); (case c2 => exact (HR.out _ (by assumption)).2.2.2.1); (case c3 => exact (HR.out _ (by assumption)).2.2.2.2.1); rintro e w6 ⟨rfl, hb⟩; have HI := IB.out _ _ (by assumption) hb; clear hb)
    | (go_split_ands; go_at_call 10; (with_reducible refine (taquinref22_Right.calls k10 _ _ _ _ _ _ _ _ _ _ _ _ _ b2 _ ?c1 h3 ?c2 h4 ?c3 h1 hright').mono ?_); (case c1 => exact (HR.out _ (by assumption)).2.2.1); (case c2 => exact (HR.out _ (by assumption)).2.2.2.1); (case c3 => exact (HR.out _ (by assumption)).2.2.2.2.1); rintro e w6 ⟨rfl, hb⟩; have HI := IB.out _ _ (by assumption) hb; clear hb)
    | (go_split_ands; go_at_call 11; (with_reducible refine (robot_New.calls act act [] _ rfl).mono ?_); rintro e w6 ⟨v, rfl, ho, hb⟩; obtain ⟨B3, d3, rfl, g3, ho⟩ := reads ho; (try simp only [List.length_nil]); have HI := IB.out _ _ (by assumption) hb; clear hb)
    | (go_split_ands; go_at_call 8; (with_reducible refine (same0 act _ _ _).mono ?_); rintro e w6 ⟨rfl, hb⟩; have HI := IB.out _ _ (by assumption) hb; clear hb))
  replace HI := Aside0.mk HI
  obtain ⟨z0, z1, z2, z3, k0, k1, k2, k3, k4, k5, k6, _⟩ := HC.out _ HI.out
  clear z0 z1 z2 z3
  have HS := Aside0.mk (St.mk (HL.out _ HI.out) (HC.out _ HI.out) (HR.out _ HI.out))
  clear HI IB toS
  go_wp2_with fail
  (with_reducible refine (taquinref22_Right.calls k10 _ _ _ _ _ _ _ _ _ _ _ _ _ b2 _ HS.out.rows.t.t.g h3 HS.out.rows.t.t.t.g h4 HS.out.rows.t.t.t.t.g h1 hright').mono ?_)
  rintro e w7 ⟨rfl, hb⟩
  replace HS := Aside0.mk (HS.out.below hb)
  clear hb k0 k1 k2 k3 k4 k5 k6
  cases b2 with
  | false =>
    go_wp2
    go_ret
    exact ⟨rfl, HS.out.bel⟩
  | true =>
    have HX := Aside0.mk (hx rfl).out
    clear hx
    obtain ⟨⟨xh, yh, eh, l, a, s, x1, y1, x2, y2, m1, m2, m3, m4, m5, m6, m7, m8, m9, n1, n2, n3, n4, hx⟩⟩ := HX
    have HX := Aside0.mk hx
    clear hx
    obtain ⟨_, _, _, _, k0, k1, k2, k3, k4, k5, k6, _⟩ := HS.out.cells
    go_wp2_with fail
    (with_reducible refine (robot_Hear.calls m1 _ _ _ _ _ _ _ _ _ _ _ _ _ _ _ _ xh yh eh _ HS.out.rows.t.t.g h3 HS.out.rows.t.t.t.g h4 HS.out.rows.t.t.t.t.g h1 HS.out.rows.t.t.t.t.t.g h2 HX.out.1).mono ?_)
    rintro e w8 ⟨v, rfl, ho, hb⟩
    obtain ⟨B4, d4, rfl, g4, ho⟩ := reads ho
    replace HS := Aside0.mk (((HS.out.below hb).row ho).new2 w8.heap.size rfl (.int .i64 xh) (.slice B4 yh.length d4) 26)
    clear hb ho k0 k1 k2 k3 k4 k5 k6
    obtain ⟨_, _, _, _, _, _, k0, k1, k2, k3, k4, k5, k6, _⟩ := HS.out.cells
    go_wp2_with fail
    (with_reducible refine (taquinref22_Hear.calls m2 _ _ _ _ _ _ _ _ _ _ (fun _ => True) _ _ _ _ _ _ xh yh eh _ HS.out.rows.t.t.t.g h3 HS.out.rows.t.t.t.t.g h4 (shared h1 HS.out.rows.t.t.t.t.t.g) HS.out.rows.t.t.t.t.t.t.g h2 HX.out.2.1).mono ?_)
    rintro e w9 ⟨v, rfl, ho, hb⟩
    obtain ⟨B5, d5, rfl, g5, ho⟩ := readsV ho
    replace HS := Aside0.mk (((HS.out.below hb).row ho).new2 w9.heap.size rfl (.int .i64 xh) (.slice B5 yh.length d5) 26)
    clear hb ho k0 k1 k2 k3 k4 k5 k6
    obtain ⟨_, _, _, _, _, _, _, _, k0, k1, k2, k3, k4, k5, k6, _⟩ := HS.out.cells
    go_wp2_with fail
    (with_reducible refine (taquinref22_Way.calls m3 _ _ _ _ _ _ _ _ _ _ _ _ _ l true _ HS.out.rows.t.t.t.t.g h3 HS.out.rows.t.t.t.t.t.g h4 HS.out.rows.t.t.t.t.t.t.g h1 HX.out.2.2.1).mono ?_)
    rintro e w10 ⟨v, rfl, ho, hb⟩
    obtain ⟨B6, d6, rfl, g6, ho⟩ := reads ho
    replace HS := Aside0.mk ((HS.out.below hb).row ho)
    clear hb ho k0 k1 k2 k3 k4 k5 k6
    have hee : (eh != eh) = false := by simp
    have haa : (a != a) = false := by simp
    have hss0 : (s.toList == s.toList) = true := by simp
    have hss : (s.toList != s.toList) = false := by simp
    go_wp2_with fail
    obtain ⟨I, hI, hb, hc, hr, hl⟩ : ∃ I : World → Prop, I w10 ∧ (∀ u v, I u → Below u.heap.size u v → I v) ∧ (∀ u, I u → Cs u [(⟨w9.heap.size, 0, none⟩, .int .i64 xh), (⟨w9.heap.size, 1, none⟩, .slice B5 yh.length d5), (⟨w8.heap.size, 0, none⟩, .int .i64 xh), (⟨w8.heap.size, 1, none⟩, .slice B4 yh.length d4), (⟨w4.heap.size, 0, none⟩, .int .i64 x), (⟨w4.heap.size, 1, none⟩, .slice B2 y.length d2), (⟨w3.heap.size, 0, none⟩, .int .i64 x), (⟨w3.heap.size, 1, none⟩, .slice B1 y.length d1), (⟨w.heap.size + 1, 0, none⟩, .int .i64 c), (⟨w.heap.size + 1, 1, none⟩, .slice A1 q.length c1), (⟨w.heap.size, 0, none⟩, .int .i64 W), (⟨w.heap.size, 1, none⟩, .int .i64 H), (⟨w.heap.size, 2, none⟩, .int .i64 D), (⟨w.heap.size, 3, none⟩, .slice A3 kd.length c3), (⟨w.heap.size, 4, none⟩, .slice A4 ot.length c4)]) ∧ (∀ u, I u → Rs u [(B6, l), (B5, yh), (B4, yh), (B2, y), (B1, y), (A3, kd), (A4, ot), (A1, q), (A2, acts)]) ∧ (∀ u, I u → Below w.heap.size w u) :=
      ⟨fun u => St w u [(⟨w9.heap.size, 0, none⟩, .int .i64 xh), (⟨w9.heap.size, 1, none⟩, .slice B5 yh.length d5), (⟨w8.heap.size, 0, none⟩, .int .i64 xh), (⟨w8.heap.size, 1, none⟩, .slice B4 yh.length d4), (⟨w4.heap.size, 0, none⟩, .int .i64 x), (⟨w4.heap.size, 1, none⟩, .slice B2 y.length d2), (⟨w3.heap.size, 0, none⟩, .int .i64 x), (⟨w3.heap.size, 1, none⟩, .slice B1 y.length d1), (⟨w.heap.size + 1, 0, none⟩, .int .i64 c), (⟨w.heap.size + 1, 1, none⟩, .slice A1 q.length c1), (⟨w.heap.size, 0, none⟩, .int .i64 W), (⟨w.heap.size, 1, none⟩, .int .i64 H), (⟨w.heap.size, 2, none⟩, .int .i64 D), (⟨w.heap.size, 3, none⟩, .slice A3 kd.length c3), (⟨w.heap.size, 4, none⟩, .slice A4 ot.length c4)] [(B6, l), (B5, yh), (B4, yh), (B2, y), (B1, y), (A3, kd), (A4, ot), (A1, q), (A2, acts)], HS.out, fun _ _ h hb => h.below hb, fun _ h => h.cells, fun _ h => h.rows, fun _ h => h.bel⟩
    have IB := Aside0.mk hb
    have HC := Aside0.mk hc
    have HR := Aside0.mk hr
    have HL := Aside0.mk hl
    clear hb hc hr hl HS
    have toS : Aside0 (∀ w', I w' → (fun w' => w'.cell? ⟨w9.heap.size, 0, none⟩ = some (.int .i64 xh) ∧ w'.cell? ⟨w9.heap.size, 1, none⟩ = some (.slice B5 yh.length d5) ∧ w'.cell? ⟨w8.heap.size, 0, none⟩ = some (.int .i64 xh) ∧ w'.cell? ⟨w8.heap.size, 1, none⟩ = some (.slice B4 yh.length d4) ∧ w'.cell? ⟨w4.heap.size, 0, none⟩ = some (.int .i64 x) ∧ w'.cell? ⟨w4.heap.size, 1, none⟩ = some (.slice B2 y.length d2) ∧ w'.cell? ⟨w3.heap.size, 0, none⟩ = some (.int .i64 x) ∧ w'.cell? ⟨w3.heap.size, 1, none⟩ = some (.slice B1 y.length d1) ∧ w'.cell? ⟨w.heap.size + 1, 0, none⟩ = some (.int .i64 c) ∧ w'.cell? ⟨w.heap.size + 1, 1, none⟩ = some (.slice A1 q.length c1) ∧ w'.cell? ⟨w.heap.size, 0, none⟩ = some (.int .i64 W) ∧ w'.cell? ⟨w.heap.size, 1, none⟩ = some (.int .i64 H) ∧ w'.cell? ⟨w.heap.size, 2, none⟩ = some (.int .i64 D) ∧ w'.cell? ⟨w.heap.size, 3, none⟩ = some (.slice A3 kd.length c3) ∧ w'.cell? ⟨w.heap.size, 4, none⟩ = some (.slice A4 ot.length c4) ∧ I w') w') := ⟨fun w' h => by obtain ⟨z0, z1, z2, z3, z4, z5, z6, z7, z8, z9, z10, z11, z12, z13, z14, _⟩ := HC.out w' h; exact ⟨z0, z1, z2, z3, z4, z5, z6, z7, z8, z9, z10, z11, z12, z13, z14, h⟩⟩
    have hd : I w10.drew := IB.out _ _ hI (below_drew (Below.refl _ _))
    have hS := toS.out _ hd
    clear hI hd
    go_region_held3 (fun w' => w'.cell? ⟨w9.heap.size, 0, none⟩ = some (.int .i64 xh) ∧ w'.cell? ⟨w9.heap.size, 1, none⟩ = some (.slice B5 yh.length d5) ∧ w'.cell? ⟨w8.heap.size, 0, none⟩ = some (.int .i64 xh) ∧ w'.cell? ⟨w8.heap.size, 1, none⟩ = some (.slice B4 yh.length d4) ∧ w'.cell? ⟨w4.heap.size, 0, none⟩ = some (.int .i64 x) ∧ w'.cell? ⟨w4.heap.size, 1, none⟩ = some (.slice B2 y.length d2) ∧ w'.cell? ⟨w3.heap.size, 0, none⟩ = some (.int .i64 x) ∧ w'.cell? ⟨w3.heap.size, 1, none⟩ = some (.slice B1 y.length d1) ∧ w'.cell? ⟨w.heap.size + 1, 0, none⟩ = some (.int .i64 c) ∧ w'.cell? ⟨w.heap.size + 1, 1, none⟩ = some (.slice A1 q.length c1) ∧ w'.cell? ⟨w.heap.size, 0, none⟩ = some (.int .i64 W) ∧ w'.cell? ⟨w.heap.size, 1, none⟩ = some (.int .i64 H) ∧ w'.cell? ⟨w.heap.size, 2, none⟩ = some (.int .i64 D) ∧ w'.cell? ⟨w.heap.size, 3, none⟩ = some (.slice A3 kd.length c3) ∧ w'.cell? ⟨w.heap.size, 4, none⟩ = some (.slice A4 ot.length c4) ∧ I w') (first | assumption | exact toS.out _ HI) (first
      | (go_split_ands; go_at_call 8; (with_reducible refine (taquinref22_Same.calls 1002 xh B4 d4 yh xh B5 d5 yh true _ ?c1 g4 ?c2 g5 (ref22_t xh yh n1 (by omega))).mono ?_); (case c1 => exact (HR.out _ (by assumption)).2.2.1); (case c2 => exact (HR.out _ (by assumption)).2.1); rintro e w6 ⟨rfl, hb⟩; have HI := IB.out _ _ (by assumption) hb; clear hb)
      | (go_split_ands; go_at_call 16; (with_reducible refine (robot_Way.calls m4 _ _ _ _ _ _ _ _ _ _ _ _ _ l _ ?c1 h3 ?c2 h4 ?c3 h1 HX.out.2.2.2.1).mono ?_); (case c1 => exact (HR.out _ (by assumption)).2.2.2.2.2.1); (case c2 => exact (HR.out _ (by assumption)).2.2.2.2.2.2.1); (case c3 => exact (HR.out _ (by assumption)).2.2.2.2.2.2.2.1); rintro e w6 ⟨v, rfl, ho, hb⟩; obtain ⟨B7, d7, rfl, g7, ho⟩ := reads ho; have HO7 := Aside0.mk ho; clear ho; have HI := IB.out _ _ (by assumption) hb; clear hb)
      | (go_split_ands; go_at_call 15; (with_reducible refine (taquinref07_Same.calls 1002 B7 d7 l B6 d6 l true _ ?c1 g7 ?c2 g6 (same_t l n2 (by omega))).mono ?_); (case c1 => exact HO7.out); (case c2 => exact (HR.out _ (by assumption)).1); rintro e w6 ⟨rfl, hd⟩; have HI := IB.out _ _ (by assumption) hd.below; clear hd HO7)
      | (go_split_ands; go_at_call 17; (with_reducible refine (robot_Next.calls _ _ _ _ a _ ?c3 h1 HX.out.2.2.2.2.1).mono ?_); (case c3 => exact (HR.out _ (by assumption)).2.2.2.2.2.2.2.1); rintro e w6 ⟨rfl, hb⟩; have HI := IB.out _ _ (by assumption) hb; clear hb)
      | (go_split_ands; go_at_call 18; (with_reducible refine (taquinref22_Next.calls _ _ _ _ a _ ?c3 h1 HX.out.2.2.2.2.2.1).mono ?_); (case c3 => exact (HR.out _ (by assumption)).2.2.2.2.2.2.2.1); rintro e w6 ⟨rfl, hb⟩; have HI := IB.out _ _ (by assumption) hb; clear hb)
      | (go_split_ands; go_at_call 19; (with_reducible refine (robot_Bytes.calls _ _ _ _ s _ ?c3 h1 HX.out.2.2.2.2.2.2.1 ?c4).mono ?_); (case c3 => exact (HR.out _ (by assumption)).2.2.2.2.2.2.2.1); (case c4 => exact HT.out.below (HL.out _ (by assumption))); rintro e w6 ⟨rfl, hb⟩; have HI := IB.out _ _ (by assumption) hb; clear hb)
      | (go_split_ands; go_at_call 20; (with_reducible refine (taquinref22_Bytes.calls m5 _ _ _ _ s _ ?c3 h1 HX.out.2.2.2.2.2.2.2.1).mono ?_); (case c3 => exact (HR.out _ (by assumption)).2.2.2.2.2.2.2.1); rintro e w6 ⟨rfl, hb⟩; have HI := IB.out _ _ (by assumption) hb; clear hb))
    replace HI := Aside0.mk HI
    replace HS := Aside0.mk (St.mk (HL.out _ HI.out) (HC.out _ HI.out) (HR.out _ HI.out))
    clear HI IB toS
    go_wp2_with fail
    generalize hW : w6 = w11 at HS ⊢
    clear hW
    obtain ⟨I, hI, hb, hc, hr, hl⟩ : ∃ I : World → Prop, I w11 ∧ (∀ u v, I u → Below u.heap.size u v → I v) ∧ (∀ u, I u → Cs u [(⟨w9.heap.size, 0, none⟩, .int .i64 xh), (⟨w9.heap.size, 1, none⟩, .slice B5 yh.length d5), (⟨w8.heap.size, 0, none⟩, .int .i64 xh), (⟨w8.heap.size, 1, none⟩, .slice B4 yh.length d4), (⟨w4.heap.size, 0, none⟩, .int .i64 x), (⟨w4.heap.size, 1, none⟩, .slice B2 y.length d2), (⟨w3.heap.size, 0, none⟩, .int .i64 x), (⟨w3.heap.size, 1, none⟩, .slice B1 y.length d1), (⟨w.heap.size + 1, 0, none⟩, .int .i64 c), (⟨w.heap.size + 1, 1, none⟩, .slice A1 q.length c1), (⟨w.heap.size, 0, none⟩, .int .i64 W), (⟨w.heap.size, 1, none⟩, .int .i64 H), (⟨w.heap.size, 2, none⟩, .int .i64 D), (⟨w.heap.size, 3, none⟩, .slice A3 kd.length c3), (⟨w.heap.size, 4, none⟩, .slice A4 ot.length c4)]) ∧ (∀ u, I u → Rs u [(B6, l), (B5, yh), (B4, yh), (B2, y), (B1, y), (A3, kd), (A4, ot), (A1, q), (A2, acts)]) ∧ (∀ u, I u → Below w.heap.size w u) :=
      ⟨fun u => St w u [(⟨w9.heap.size, 0, none⟩, .int .i64 xh), (⟨w9.heap.size, 1, none⟩, .slice B5 yh.length d5), (⟨w8.heap.size, 0, none⟩, .int .i64 xh), (⟨w8.heap.size, 1, none⟩, .slice B4 yh.length d4), (⟨w4.heap.size, 0, none⟩, .int .i64 x), (⟨w4.heap.size, 1, none⟩, .slice B2 y.length d2), (⟨w3.heap.size, 0, none⟩, .int .i64 x), (⟨w3.heap.size, 1, none⟩, .slice B1 y.length d1), (⟨w.heap.size + 1, 0, none⟩, .int .i64 c), (⟨w.heap.size + 1, 1, none⟩, .slice A1 q.length c1), (⟨w.heap.size, 0, none⟩, .int .i64 W), (⟨w.heap.size, 1, none⟩, .int .i64 H), (⟨w.heap.size, 2, none⟩, .int .i64 D), (⟨w.heap.size, 3, none⟩, .slice A3 kd.length c3), (⟨w.heap.size, 4, none⟩, .slice A4 ot.length c4)] [(B6, l), (B5, yh), (B4, yh), (B2, y), (B1, y), (A3, kd), (A4, ot), (A1, q), (A2, acts)], HS.out, fun _ _ h hb => h.below hb, fun _ h => h.cells, fun _ h => h.rows, fun _ h => h.bel⟩
    have IB := Aside0.mk hb
    have HC := Aside0.mk hc
    have HR := Aside0.mk hr
    have HL := Aside0.mk hl
    clear hb hc hr hl HS
    have toS : Aside0 (∀ w', I w' → (fun w' => w'.cell? ⟨w9.heap.size, 0, none⟩ = some (.int .i64 xh) ∧ w'.cell? ⟨w9.heap.size, 1, none⟩ = some (.slice B5 yh.length d5) ∧ w'.cell? ⟨w8.heap.size, 0, none⟩ = some (.int .i64 xh) ∧ w'.cell? ⟨w8.heap.size, 1, none⟩ = some (.slice B4 yh.length d4) ∧ w'.cell? ⟨w4.heap.size, 0, none⟩ = some (.int .i64 x) ∧ w'.cell? ⟨w4.heap.size, 1, none⟩ = some (.slice B2 y.length d2) ∧ w'.cell? ⟨w3.heap.size, 0, none⟩ = some (.int .i64 x) ∧ w'.cell? ⟨w3.heap.size, 1, none⟩ = some (.slice B1 y.length d1) ∧ w'.cell? ⟨w.heap.size + 1, 0, none⟩ = some (.int .i64 c) ∧ w'.cell? ⟨w.heap.size + 1, 1, none⟩ = some (.slice A1 q.length c1) ∧ w'.cell? ⟨w.heap.size, 0, none⟩ = some (.int .i64 W) ∧ w'.cell? ⟨w.heap.size, 1, none⟩ = some (.int .i64 H) ∧ w'.cell? ⟨w.heap.size, 2, none⟩ = some (.int .i64 D) ∧ w'.cell? ⟨w.heap.size, 3, none⟩ = some (.slice A3 kd.length c3) ∧ w'.cell? ⟨w.heap.size, 4, none⟩ = some (.slice A4 ot.length c4) ∧ I w') w') := ⟨fun w' h => by obtain ⟨z0, z1, z2, z3, z4, z5, z6, z7, z8, z9, z10, z11, z12, z13, z14, _⟩ := HC.out w' h; exact ⟨z0, z1, z2, z3, z4, z5, z6, z7, z8, z9, z10, z11, z12, z13, z14, h⟩⟩
    have hd : I w11.drew := IB.out _ _ hI (below_drew (Below.refl _ _))
    have hS := toS.out _ hd
    clear hI hd
    go_region_held3 (fun w' => w'.cell? ⟨w9.heap.size, 0, none⟩ = some (.int .i64 xh) ∧ w'.cell? ⟨w9.heap.size, 1, none⟩ = some (.slice B5 yh.length d5) ∧ w'.cell? ⟨w8.heap.size, 0, none⟩ = some (.int .i64 xh) ∧ w'.cell? ⟨w8.heap.size, 1, none⟩ = some (.slice B4 yh.length d4) ∧ w'.cell? ⟨w4.heap.size, 0, none⟩ = some (.int .i64 x) ∧ w'.cell? ⟨w4.heap.size, 1, none⟩ = some (.slice B2 y.length d2) ∧ w'.cell? ⟨w3.heap.size, 0, none⟩ = some (.int .i64 x) ∧ w'.cell? ⟨w3.heap.size, 1, none⟩ = some (.slice B1 y.length d1) ∧ w'.cell? ⟨w.heap.size + 1, 0, none⟩ = some (.int .i64 c) ∧ w'.cell? ⟨w.heap.size + 1, 1, none⟩ = some (.slice A1 q.length c1) ∧ w'.cell? ⟨w.heap.size, 0, none⟩ = some (.int .i64 W) ∧ w'.cell? ⟨w.heap.size, 1, none⟩ = some (.int .i64 H) ∧ w'.cell? ⟨w.heap.size, 2, none⟩ = some (.int .i64 D) ∧ w'.cell? ⟨w.heap.size, 3, none⟩ = some (.slice A3 kd.length c3) ∧ w'.cell? ⟨w.heap.size, 4, none⟩ = some (.slice A4 ot.length c4) ∧ I w') (first | assumption | exact toS.out _ HI) (first
      | (go_split_ands; go_at_call 21; (with_reducible refine (robot_Did.calls m6 _ _ _ _ _ _ _ _ _ _ _ _ _ act done x1 y1 _ ?c1 h3 ?c2 h4 ?c3 h1 HX.out.2.2.2.2.2.2.2.2.1).mono ?_); (case c1 => exact (HR.out _ (by assumption)).2.2.2.2.2.1); (case c2 => exact (HR.out _ (by assumption)).2.2.2.2.2.2.1); (case c3 => exact (HR.out _ (by assumption)).2.2.2.2.2.2.2.1); rintro e w6 ⟨v, rfl, ho, hb⟩; obtain ⟨B7, d7, rfl, g7, ho⟩ := readsQ ho; have HO7 := Aside0.mk ho; clear ho; have HI := IB.out _ _ (by assumption) hb; clear hb)
      | (go_split_ands; go_at_call 22; (with_reducible refine (taquinref22_Did.calls m7 _ _ _ _ _ _ _ _ _ _ (fun _ => True) _ _ _ act done x1 y1 _ ?c1 h3 ?c2 h4 ?c3 HX.out.2.2.2.2.2.2.2.2.2.1).mono ?_); (case c1 => exact (HR.out _ (by assumption)).2.2.2.2.2.1); (case c2 => exact (HR.out _ (by assumption)).2.2.2.2.2.2.1); (case c3 => exact shared h1 (HR.out _ (by assumption)).2.2.2.2.2.2.2.1); rintro e w6 ⟨v, rfl, ho, hb⟩; obtain ⟨B8, d8, rfl, g8, ho⟩ := readsV ho; have HO8 := Aside0.mk ho; replace HO7 := Aside0.mk (Kd.C_below HO7.out hb); clear ho; have HI := IB.out _ _ (by assumption) hb; clear hb)
      | (go_split_ands; go_at_call 8; (with_reducible refine (taquinref22_Same.calls 1002 x1 B7 d7 y1 x1 B8 d8 y1 true _ HO7.out g7 HO8.out g8 (ref22_t x1 y1 n3 (by omega))).mono ?_); rintro e w6 ⟨rfl, hb⟩; have HI := IB.out _ _ (by assumption) hb; clear hb; clear HO7 HO8)
      | (go_split_ands; go_at_call 17; (with_reducible refine (robot_Next.calls _ _ _ _ a _ ?c3 h1 HX.out.2.2.2.2.1).mono ?_); (case c3 => exact (HR.out _ (by assumption)).2.2.2.2.2.2.2.1); rintro e w6 ⟨rfl, hb⟩; have HI := IB.out _ _ (by assumption) hb; clear hb)
      | (go_split_ands; go_at_call 21; (with_reducible refine (robot_Did.calls m8 _ _ _ _ _ _ _ _ _ _ _ _ _ a done x2 y2 _ ?c1 h3 ?c2 h4 ?c3 h1 HX.out.2.2.2.2.2.2.2.2.2.2.1).mono ?_); (case c1 => exact (HR.out _ (by assumption)).2.2.2.2.2.1); (case c2 => exact (HR.out _ (by assumption)).2.2.2.2.2.2.1); (case c3 => exact (HR.out _ (by assumption)).2.2.2.2.2.2.2.1); rintro e w6 ⟨v, rfl, ho, hb⟩; obtain ⟨B9, d9, rfl, g9, ho⟩ := readsQ ho; have HO9 := Aside0.mk ho; clear ho; have HI := IB.out _ _ (by assumption) hb; clear hb)
      | (go_split_ands; go_at_call 18; (with_reducible refine (taquinref22_Next.calls _ _ _ _ a _ ?c3 h1 HX.out.2.2.2.2.2.1).mono ?_); (case c3 => exact (HR.out _ (by assumption)).2.2.2.2.2.2.2.1); rintro e w6 ⟨rfl, hb⟩; replace HO9 := Aside0.mk (Kd.C_below HO9.out hb); have HI := IB.out _ _ (by assumption) hb; clear hb)
      | (go_split_ands; go_at_call 22; (with_reducible refine (taquinref22_Did.calls m9 _ _ _ _ _ _ _ _ _ _ (fun _ => True) _ _ _ a done x2 y2 _ ?c1 h3 ?c2 h4 ?c3 HX.out.2.2.2.2.2.2.2.2.2.2.2).mono ?_); (case c1 => exact (HR.out _ (by assumption)).2.2.2.2.2.1); (case c2 => exact (HR.out _ (by assumption)).2.2.2.2.2.2.1); (case c3 => exact shared h1 (HR.out _ (by assumption)).2.2.2.2.2.2.2.1); rintro e w6 ⟨v, rfl, ho, hb⟩; obtain ⟨B0, d0, rfl, g0, ho⟩ := readsV ho; have HO0 := Aside0.mk ho; replace HO9 := Aside0.mk (Kd.C_below HO9.out hb); clear ho; have HI := IB.out _ _ (by assumption) hb; clear hb)
      | (go_split_ands; go_at_call 8; (with_reducible refine (taquinref22_Same.calls 1002 x2 B9 d9 y2 x2 B0 d0 y2 true _ HO9.out g9 HO0.out g0 (ref22_t x2 y2 n4 (by omega))).mono ?_); rintro e w6 ⟨rfl, hb⟩; have HI := IB.out _ _ (by assumption) hb; clear hb; clear HO9 HO0))
    go_wp2
    go_ret
    exact ⟨rfl, HL.out _ HI⟩
theorem all (hs : Rs w [(A3, kd), (A4, ot), (A1, q), (A2, acts)]) (h3 : kd.length ≤ c3) (h4 : ot.length ≤ c4) (h1 : q.length ≤ c1) (h2 : acts.length ≤ c2) (hT : Tabs w) :
    Calls Tryz.prog 3 #[.agg #[.int .i64 W, .int .i64 H, .int .i64 D, .slice A3 kd.length c3, .slice A4 ot.length c4], .agg #[.int .i64 c, .slice A1 q.length c1], .slice A2 acts.length c2, .int .i64 act, .bool done, .string t] w fun e w' => e = .returned (.bool true) ∧ Below w.heap.size w w' := by
  obtain ⟨b, hb⟩ := few_some W H D kd ot c q
  have hb := hb 100 (by omega)
  cases b with
  | false => exact early W H D A3 c3 kd A4 c4 ot c A1 c1 q A2 c2 acts act done t w hs h3 h4 h1 h2 hb
  | true =>
    obtain ⟨F, hkd, hq⟩ := few_is hb rfl
    by_cases ha : 10 < (acts.length : Int)
    · exact long W H D A3 c3 kd A4 c4 ot c A1 c1 q A2 c2 acts act done t w hs h3 h4 h1 h2 hb (.inl ha)
    by_cases ht : 300 < (t.size : Int)
    · exact long W H D A3 c3 kd A4 c4 ot c A1 c1 q A2 c2 acts act done t w hs h3 h4 h1 h2 hb (.inr ht)
    obtain ⟨x, y, b3, hr1, hr2, hy⟩ := tells_read F hkd t.data.toList (by rw [WireB.b_length]; omega)
    rw [WireB.b_eta] at hr1 hr2
    obtain ⟨kr', hr2⟩ := Ev.rounds hr2
    obtain ⟨b1, hb1, hiff⟩ := right_is F c q (k := kd.length + 10) (by omega)
    obtain ⟨b2, hb2, hiff2⟩ := ref_right_is F c q (k := kd.length + 40) (by omega)
    have e : b2 = b1 := by rw [Bool.eq_iff_iff]; exact hiff2.trans hiff.symm
    subst e
    refine main W H D A3 c3 kd A4 c4 ot c A1 c1 q A2 c2 acts act done t w hs h3 h4 h1 h2 hT hb (by omega) (by omega) x y b3 hy _ _ (hr1 _ (Nat.le_refl _)) hr2 b2 _ _ hb1 hb2 (fun hbb => ⟨?_⟩)
    have m := hiff.1 hbb
    have h4' := m.q4
    obtain ⟨xh, yh, eh, hh1, hh2, hyh⟩ := tells_hear F c q acts (by omega) (by omega) (k := kd.length + 60 + acts.length) (by omega)
    obtain ⟨l, hl⟩ := m.st
    have hw := ref_way F c q (by omega) (small_of m.kn) (k := 40) (by omega)
    rw [hl] at hw
    have hll : (c :: l).length ≤ 1000 := by
      have := steps_len F q c l hl
      simp only [List.length_cons]; omega
    obtain ⟨a, ha1, ha2⟩ := act_some c q
    obtain ⟨x1, y1, d1, d2, hy1⟩ := tells_did F m act done (k := 10) (by omega)
    obtain ⟨x2, y2, d3, d4, hy2⟩ := tells_did F m a done (k := 10) (by omega)
    obtain ⟨kb, hbb2⟩ := Ev.rounds (ref_bytes m hkd)
    exact ⟨xh, yh, eh, c :: l, a, WireB.B (enc c q), x1, y1, x2, y2, _, _, 40, 20, kb, 10, 10, 10, 10, hyh, hll, hy1, hy2, hh1, hh2, hw, Way_is F m hl (by omega), ha1, ha2, bytes_is m hkd, hbb2, d1, d2, d3, d4⟩
end
end Go.Proofs.YtphcihbffiggbaaGreatDoor.RobLawRt
