-- written by a program of this claim's own (wip/tools/pp.py), after the kit's printer
import Derived.Test.YtdgbfaflepiagaaDoorPSex0
namespace Go.Proofs.YtdgbfaflepiagaaDoor.PSe
open Go.RowKit Go.Proofs.YtdgbfaflepiagaaDoorW.PrintWords Go.Proofs.YtdgbfaflepiagaaDoorW.PrintLast Go.Proofs.YtdgbfaflepiagaaDoorW.PrintMore
attribute [local go_sem] max2_int min2_int max_two min_two max_three min_three max_four min_four   -- for this text's walks alone
set_option linter.unusedVariables false
set_option linter.unusedSimpArgs false

-- NOT PRINTED: function 10 (seam_New)

-- NOT PRINTED: function 59 (seam_Desk_find)

-- NOT PRINTED: function 23 (seam_Desk_Again)

-- NOT PRINTED: function 21 (seam_Desk_Offer)

-- NOT PRINTED: function 25 (seam_Desk_Hear)

-- NOT PRINTED: function 30 (seam_Desk_Phase)

-- NOT PRINTED: function 8 (taquinlaw45_small)

/-! ### taquinlaw45_fine: function 9 -/
def taquinlaw45_fine.l0 : Nat → List (S34) → Int → Int → Option (Bool)
  | 0, _, _, _ => none
  | k + 1, x0, x1, x5 => if x5 < (x0.length : Int) then (if 0 ≤ x5 then (if ((rd_T34 x0 x5).f1.f2) > 1099511627776 then (some false) else (if ((rd_T34 x0 x5).f1.f2) < (-1099511627776) then (some false) else (taquinlaw45_fine.l0 k x0 x1 (wrap64 (x5 + 1))))) else (none)) else (some (decide ((x0.length : Int) ≤ x1)))
def taquinlaw45_fine.f (k : Nat) (l0 : List (S34)) (a1 : Int) : Option (Bool) := taquinlaw45_fine.l0 k l0 a1 0
theorem taquinlaw45_fine.mono_l : ∀ k, (∀ y0 y1 y2, LeO (taquinlaw45_fine.l0 k y0 y1 y2) (taquinlaw45_fine.l0 (k + 1) y0 y1 y2))
  | 0 => fun _ _ _ r h => by simp [taquinlaw45_fine.l0] at h
  | k + 1 => by
    have ih0 := taquinlaw45_fine.mono_l k
    · intro y0 y1 y2
      unfold taquinlaw45_fine.l0
      repeat' first
      | (with_reducible exact ih0 _ _ _)
      | (with_reducible exact LeO.refl _)
      | (with_reducible exact LeO.none _)
      | (with_reducible refine LeO.ite ?_ ?_)
      | (with_reducible refine LeO.bind ?_ (fun _ => ?_))
      | exact ih0 _ _ _
      | exact LeO.none _
      | refine LeO.ite ?_ ?_
      | refine LeO.bind ?_ (fun _ => ?_)
theorem taquinlaw45_fine.mono : ∀ a0 a1 k, LeO (taquinlaw45_fine.f k a0 a1) (taquinlaw45_fine.f (k + 1) a0 a1) := by
  intro a0 a1 k
  have ih0 := taquinlaw45_fine.mono_l k
  unfold taquinlaw45_fine.f
  repeat' first
      | (with_reducible exact ih0 _ _ _)
      | (with_reducible exact LeO.refl _)
      | (with_reducible exact LeO.none _)
      | (with_reducible refine LeO.ite ?_ ?_)
      | (with_reducible refine LeO.bind ?_ (fun _ => ?_))
      | exact ih0 _ _ _
      | exact LeO.none _
      | refine LeO.ite ?_ ?_
      | refine LeO.bind ?_ (fun _ => ?_)
set_option maxHeartbeats 8000000 in
set_option maxRecDepth 100000 in
theorem taquinlaw45_fine.calls (k : Nat) (A0 : Option Addr) (c0 : Nat) (l0 : List (S34)) (a1 : Int) (r : Bool) (w : World) (hr0 : Kd.C k34 w A0 l0.length l0) (hc0 : l0.length ≤ c0) (h : taquinlaw45_fine.f k l0 a1 = some r) :
    Calls Tryd.prog 9 #[.slice A0 l0.length c0, .int .i64 a1] w fun e w' => e = .returned (.bool r) ∧ Drawn0 w w' := by
  have HR0 := Aside0.mk hr0
  have HC0 := Aside0.mk hc0
  clear hr0 hc0
  have H : (taquinlaw45_fine.l0 k l0 a1 0) = some r := h
  clear h
  have H' := Aside0.mk H
  clear H
  go_enter Tryd.func9, Tryd.ntmps9
  go_wp2
  go_loopg [5] k (fun kq v5 w' => ∃ (x5_1 : Int), v5 = .int .i64 x5_1 ∧ Aside0 (taquinlaw45_fine.l0 kq l0 a1 x5_1 = some r) ∧ Aside0 (kq ≤ k) ∧ Drawn0 w w')
  case atStart => exact ⟨(0), (by first | rfl | (simp; done) | (simp [*]; done)), H', ⟨Nat.le_refl _⟩, by repeat (first | exact Drawn0.refl _ | apply Drawn0.step)⟩
  case round =>
    clear H'
    try clear p2
    obtain ⟨x5_1, rfl, HA, HK1, ⟨m1, rfl⟩⟩ := hrel
    cases gk with
    | zero => exact absurd HA.out (by simp [taquinlaw45_fine.l0])
    | succ k1 =>
      have H := HA.out
      clear HA
      simp only [taquinlaw45_fine.l0] at H
      by_cases c3 : x5_1 < (l0.length : Int)
      · rw [if_pos c3] at H
        have c3b0 : decide (x5_1 < (l0.length : Int)) = true := decide_eq_true c3
        clear c3
        by_cases c4 : 0 ≤ x5_1
        · rw [if_pos c4] at H
          have c4b0 : decide (0 ≤ x5_1) = true := decide_eq_true c4
          clear c4
          by_cases c5 : ((rd_T34 l0 x5_1).f1.f2) > 1099511627776
          · rw [if_pos c5] at H
            have c5b0 : decide (1099511627776 < ((rd_T34 l0 x5_1).f1.f2)) = true := decide_eq_true c5
            clear c5
            obtain rfl := Option.some.inj H
            have p108 : 0 ≤ (x5_1 : Int) := of_decide_eq_true (by first | (with_reducible assumption) | assumption)
            have q108 : x5_1 < (l0.length : Int) := of_decide_eq_true (by first | (with_reducible assumption) | assumption)
            obtain ⟨ad108, e108, hx108_0, hx108_1, hx108_2, hx108_3, hx108_4⟩ := at_T34 HR0.out x5_1 p108 q108
            cases e108
            replace p108 := eq_true p108
            replace q108 := eq_true q108
            go_wp2
            go_ret
            exact ⟨by first | rfl | (simp; done) | (simp [*]; done), by repeat (first | exact Drawn0.refl _ | apply Drawn0.step)⟩
          · rw [if_neg c5] at H
            have c5b0 : decide (1099511627776 < ((rd_T34 l0 x5_1).f1.f2)) = false := decide_eq_false c5
            clear c5
            by_cases c6 : ((rd_T34 l0 x5_1).f1.f2) < (-1099511627776)
            · rw [if_pos c6] at H
              have c6b0 : decide (((rd_T34 l0 x5_1).f1.f2) < (-1099511627776)) = true := decide_eq_true c6
              clear c6
              obtain rfl := Option.some.inj H
              have p108 : 0 ≤ (x5_1 : Int) := of_decide_eq_true (by first | (with_reducible assumption) | assumption)
              have q108 : x5_1 < (l0.length : Int) := of_decide_eq_true (by first | (with_reducible assumption) | assumption)
              obtain ⟨ad108, e108, hx108_0, hx108_1, hx108_2, hx108_3, hx108_4⟩ := at_T34 HR0.out x5_1 p108 q108
              cases e108
              replace p108 := eq_true p108
              replace q108 := eq_true q108
              have p109 : 0 ≤ (x5_1 : Int) := of_decide_eq_true (by first | (with_reducible assumption) | assumption)
              have q109 : x5_1 < (l0.length : Int) := of_decide_eq_true (by first | (with_reducible assumption) | assumption)
              obtain ⟨ad109, e109, hx109_0, hx109_1, hx109_2, hx109_3, hx109_4⟩ := at_T34 HR0.out x5_1 p109 q109
              obtain rfl : ad108 = ad109 := (by injection e109)
              replace p109 := eq_true p109
              replace q109 := eq_true q109
              go_wp2
              go_ret
              exact ⟨by first | rfl | (simp; done) | (simp [*]; done), by repeat (first | exact Drawn0.refl _ | apply Drawn0.step)⟩
            · rw [if_neg c6] at H
              have c6b0 : decide (((rd_T34 l0 x5_1).f1.f2) < (-1099511627776)) = false := decide_eq_false c6
              clear c6
              have H' := Aside0.mk H
              clear H
              have p108 : 0 ≤ (x5_1 : Int) := of_decide_eq_true (by first | (with_reducible assumption) | assumption)
              have q108 : x5_1 < (l0.length : Int) := of_decide_eq_true (by first | (with_reducible assumption) | assumption)
              obtain ⟨ad108, e108, hx108_0, hx108_1, hx108_2, hx108_3, hx108_4⟩ := at_T34 HR0.out x5_1 p108 q108
              cases e108
              replace p108 := eq_true p108
              replace q108 := eq_true q108
              have p109 : 0 ≤ (x5_1 : Int) := of_decide_eq_true (by first | (with_reducible assumption) | assumption)
              have q109 : x5_1 < (l0.length : Int) := of_decide_eq_true (by first | (with_reducible assumption) | assumption)
              obtain ⟨ad109, e109, hx109_0, hx109_1, hx109_2, hx109_3, hx109_4⟩ := at_T34 HR0.out x5_1 p109 q109
              obtain rfl : ad108 = ad109 := (by injection e109)
              replace p109 := eq_true p109
              replace q109 := eq_true q109
              go_wp2
              go_roundg k1
              case measure => have := HK1.out; omega
              case rel => exact ⟨(wrap64 (x5_1 + 1)), (by first | rfl | (simp; done) | (simp [*]; done)), H', ⟨by have := HK1.out; omega⟩, by repeat (first | exact Drawn0.refl _ | apply Drawn0.step)⟩
        · rw [if_neg c4] at H
          exact absurd H (by simp)
      · rw [if_neg c3] at H
        have c3b0 : decide (x5_1 < (l0.length : Int)) = false := decide_eq_false c3
        clear c3
        obtain rfl := Option.some.inj H
        go_wp2
        go_ret
        exact ⟨by first | rfl | (simp; done) | (simp [*]; done), by repeat (first | exact Drawn0.refl _ | apply Drawn0.step)⟩

/-- A state of type 114 at block g of W; what its slices lead to came in by w0. -/
def IsS114 (w0 W : World) (g : Nat) (f0 : ByteArray) (f1 : Bool) : Prop := W.heap[g]? = some (.cells #[.string f0, .bool f1] 114 (0, 0)) ∧ w0.heap.size ≤ g
theorem IsS114.grown {w0 W : World} {g : Nat} {f0 : ByteArray} {f1 : Bool} {W1 : World} {row : Option Nat} (h : IsS114 w0 W g f0 f1) (hw : W.grownBy W1 row) (hne : some g ≠ row) : IsS114 w0 W1 g f0 f1 := by
  obtain ⟨hb, hg⟩ := h
  exact ⟨blk_grown hb hw hne, hg⟩
theorem IsS114.own_neN {w0 W : World} {g : Nat} {f0 : ByteArray} {f1 : Bool} {α : Type} {d : Kd α} {e : Nat} {base : Nat} {ok : Nat → Prop} {v : Value} {xs : List α} (h : IsS114 w0 W g f0 f1) (ho : Kd.N d e W base ok v xs) (ht : e ≠ 114) : some g ≠ v.ownBlock := by
  obtain ⟨hb, hg⟩ := h
  exact Kd.N_ne ho hb ht
theorem IsS114.fresh {w0 W : World} {g : Nat} {f0 : ByteArray} {f1 : Bool} (h : IsS114 w0 W g f0 f1) : ∀ k, W.heap.size ≤ k → k ≠ g := by
  obtain ⟨hb, hg⟩ := h
  exact Kd.freshB hb
theorem IsS114.kept {w0 W : World} {g : Nat} {f0 : ByteArray} {f1 : Bool} {W1 : World} {S : Nat → Prop} (h : IsS114 w0 W g f0 f1) (hk : Kept W W1 S) (hne : ¬ S g) : IsS114 w0 W1 g f0 f1 := by
  obtain ⟨hb, hg⟩ := h
  exact ⟨blk_kept hb hk hne, hg⟩
theorem IsS114.below {w0 W : World} {g : Nat} {f0 : ByteArray} {f1 : Bool} {W1 : World} (h : IsS114 w0 W g f0 f1) (hw : Below W.heap.size W W1) : IsS114 w0 W1 g f0 f1 := h.grown (grown_of_below hw none) (by simp)
theorem IsS114.alloc {w0 W : World} {g : Nat} {f0 : ByteArray} {f1 : Bool} (h : IsS114 w0 W g f0 f1) (o : Obj) : IsS114 w0 (W.alloc o) g f0 f1 := h.below (below_alloc (Below.refl _ _) o)
theorem IsS114.drewN {w0 W : World} {g : Nat} {f0 : ByteArray} {f1 : Bool} (h : IsS114 w0 W g f0 f1) (m : Nat) : IsS114 w0 (W.drewN m) g f0 f1 := h
theorem IsS114.drew {w0 W : World} {g : Nat} {f0 : ByteArray} {f1 : Bool} (h : IsS114 w0 W g f0 f1) : IsS114 w0 W.drew g f0 f1 := h
theorem IsS114.at_ {w0 W : World} {g : Nat} {f0 : ByteArray} {f1 : Bool} {w' : World} {m : Nat} (hq : W.drewN m = w') (h : IsS114 w0 W g f0 f1) : IsS114 w0 w' g f0 f1 := by subst hq; exact IsS114.drewN h m
theorem IsS114.apart {w0 W : World} {g : Nat} {f0 : ByteArray} {f1 : Bool} {α : Type} {d : Kd α} {e : Nat} {base : Nat} {ok : Nat → Prop} {v : Value} {xs : List α} (h : IsS114 w0 W g f0 f1) (ho : d.R e W base ok v xs) (ht : ∀ q, q ∈ e :: d.E → q ≠ 114) : d.R e W base (fun k => ok k ∧ k ≠ g) v xs := by
  obtain ⟨hb, hg⟩ := h
  exact Kd.R_types ho hb ht
theorem IsS114.own_ne {w0 W : World} {g : Nat} {f0 : ByteArray} {f1 : Bool} {α : Type} {d : Kd α} {e : Nat} {base : Nat} {ok : Nat → Prop} {v : Value} {xs : List α} (h : IsS114 w0 W g f0 f1) (ho : d.R e W base ok v xs) (ht : e ≠ 114) : some g ≠ v.ownBlock := by
  obtain ⟨hb, hg⟩ := h
  exact Kd.R_ne ho hb ht
theorem IsS114.apartQ {w0 W : World} {g : Nat} {f0 : ByteArray} {f1 : Bool} {α : Type} {d : Kd α} {e : Nat} {base : Nat} {ok : Nat → Prop} {v : Value} {xs : List α} (h : IsS114 w0 W g f0 f1) (ho : d.Q e W base ok v xs) (ht : ∀ q, q ∈ e :: d.E → q ≠ 114) : d.Q e W base (fun k => ok k ∧ k ≠ g) v xs := by
  obtain ⟨hb, hg⟩ := h
  exact Kd.Q_types ho hb ht
theorem IsS114.own_neQ {w0 W : World} {g : Nat} {f0 : ByteArray} {f1 : Bool} {α : Type} {d : Kd α} {e : Nat} {base : Nat} {ok : Nat → Prop} {v : Value} {xs : List α} (h : IsS114 w0 W g f0 f1) (ho : d.Q e W base ok v xs) (ht : e ≠ 114) : some g ≠ v.ownBlock := by
  obtain ⟨hb, hg⟩ := h
  exact Kd.Q_ne ho hb ht
theorem IsS114.apartS {w0 W : World} {g : Nat} {f0 : ByteArray} {f1 : Bool} {α : Type} {d : Kd α} {e : Nat} {base : Nat} {ok : Nat → Prop} {v : Value} {xs : List α} (h : IsS114 w0 W g f0 f1) (ho : d.S e W base ok v xs) (ht : ∀ q, q ∈ e :: d.E → q ≠ 114) : d.S e W base (fun k => ok k ∧ k ≠ g) v xs := by
  obtain ⟨hb, hg⟩ := h
  exact Kd.S_types ho hb ht
theorem IsS114.own_neS {w0 W : World} {g : Nat} {f0 : ByteArray} {f1 : Bool} {α : Type} {d : Kd α} {e : Nat} {base : Nat} {ok : Nat → Prop} {v : Value} {xs : List α} (h : IsS114 w0 W g f0 f1) (ho : d.S e W base ok v xs) (ht : e ≠ 114) : some g ≠ v.ownBlock := by
  obtain ⟨hb, hg⟩ := h
  exact Kd.S_ne ho hb ht
theorem IsS114.lt {w0 W : World} {g : Nat} {f0 : ByteArray} {f1 : Bool} (h : IsS114 w0 W g f0 f1) : g < W.heap.size := by
  obtain ⟨hb, hg⟩ := h
  exact blk_lt hb
theorem IsS114.ge {w0 W : World} {g : Nat} {f0 : ByteArray} {f1 : Bool} (h : IsS114 w0 W g f0 f1) : w0.heap.size ≤ g := by
  obtain ⟨hb, hg⟩ := h
  exact hg
theorem IsS114.ne_blk {w0 W : World} {g : Nat} {f0 : ByteArray} {f1 : Bool} {a : Nat} {cs : Array Value} {t : TypeId} {fr : Nat × Nat} (h : IsS114 w0 W g f0 f1) (hb2 : W.heap[a]? = some (.cells cs t fr)) (ht : t ≠ 114) : g ≠ a := by
  obtain ⟨hb, hg⟩ := h
  rintro rfl
  rw [hb] at hb2
  injection hb2 with hb2
  injection hb2 with _ ht2
  exact ht ht2.symm
theorem IsS114.far {w0 W : World} {g : Nat} {f0 : ByteArray} {f1 : Bool} {p : Addr} (h : IsS114 w0 W g f0 f1) (hne : g ≠ p.block) (u : Value) : IsS114 w0 (W.setCell p u) g f0 f1 := by
  obtain ⟨hb, hg⟩ := h
  exact ⟨blk_far hb hne u, hg⟩
theorem cellS114_0 {W : World} {g : Nat} {f0 : ByteArray} {f1 : Bool} (h : W.heap[g]? = some (.cells #[.string f0, .bool f1] 114 (0, 0))) : W.cell? ⟨g, 0, none⟩ = some (.string f0) := (blk_cell h 0).trans rfl
theorem IsS114.set_0 {w0 W : World} {g : Nat} {f0 : ByteArray} {f1 : Bool} (h : IsS114 w0 W g f0 f1) (x : ByteArray) : IsS114 w0 (W.setCell ⟨g, 0, none⟩ (.string x)) g x f1 := by
  obtain ⟨hb, hg⟩ := h
  exact ⟨by simpa using blk_set hb 0 (.string x), hg⟩
theorem cellS114_1 {W : World} {g : Nat} {f0 : ByteArray} {f1 : Bool} (h : W.heap[g]? = some (.cells #[.string f0, .bool f1] 114 (0, 0))) : W.cell? ⟨g, 1, none⟩ = some (.bool f1) := (blk_cell h 1).trans rfl
theorem IsS114.set_1 {w0 W : World} {g : Nat} {f0 : ByteArray} {f1 : Bool} (h : IsS114 w0 W g f0 f1) (x : Bool) : IsS114 w0 (W.setCell ⟨g, 1, none⟩ (.bool x)) g f0 x := by
  obtain ⟨hb, hg⟩ := h
  exact ⟨by simpa using blk_set hb 1 (.bool x), hg⟩
theorem IsS114.new (w0 W : World) (f0 : ByteArray) (f1 : Bool) (hB : Below w0.heap.size w0 W) : IsS114 w0 (W.alloc (.cells #[.string f0, .bool f1] 114)) W.heap.size f0 f1 := ⟨by simpa using heap_alloc_new W _, hB.size⟩

/-! ### wire_Open: function 42 -/
def wire_Open.f (a0 : ByteArray) : Option (ByteArray × Bool) := some (a0, false)
set_option maxHeartbeats 8000000 in
set_option maxRecDepth 100000 in
theorem wire_Open.calls (a0 : ByteArray) (r1 : ByteArray) (r2 : Bool) (w0 w : World) (hB : Below w0.heap.size w0 w) (h : wire_Open.f a0 = some (r1, r2)) :
    Calls Tryd.prog 42 #[.string a0] w fun e w' => ∃ g_ : Nat, e = .returned (.pointer (some ⟨g_, 0, none⟩)) ∧ IsS114 w0 w' g_ r1 r2 ∧ Below w0.heap.size w0 w' ∧ Below w.heap.size w w' := by
  have hu114 := Tryd.underlying114
  have HBW := Aside0.mk (Below.refl w.heap.size w)
  have HW0 := Aside0.mk hB.size
  have HB := Aside0.mk hB
  clear hB
  have H : (some (a0, false)) = some (r1, r2) := h
  clear h
  simp only [Option.some.injEq, Prod.mk.injEq] at H
  obtain ⟨rfl, rfl⟩ := H
  go_enter Tryd.func42, Tryd.ntmps42
  go_wp2_with (first | ((with_reducible refine gate_dst (N := 5) rfl ?_); refine box_event ?hg (N := 5) ?hd (cs := #[.string a0, .bool false]) (t := 114) ?hr ?_; (case hd => rfl); (case hg => rfl); (case hr => first | (go_simp; done) | (go_simp; rfl)); intro gb110 hg w2 hbox hb; have n0_ := Aside0.mk (below_step HBW.out hb); have n1_ := Aside0.mk (below_step (by repeat (first | (with_reducible first | exact HB.out | apply below_alloc | apply pw_below_drewN | apply below_drew1) | exact HB.out)) hb); have n2_ := Aside0.mk (hbox); have n3_ := Aside0.mk ((by rw [hg]; exact (below_size (by repeat (first | (with_reducible first | exact HBW.out | apply below_alloc | apply pw_below_drewN | apply below_drew1) | exact HBW.out))) : w.heap.size ≤ gb110)); have n4_ := Aside0.mk ((Nat.le_trans HW0.out (by rw [hg]; exact (below_size (by repeat (first | (with_reducible first | exact HBW.out | apply below_alloc | apply pw_below_drewN | apply below_drew1) | exact HBW.out))) : w.heap.size ≤ gb110) : w0.heap.size ≤ gb110)); clear HBW; clear HB; have HBW := n0_; have HB := n1_; have BK110 := n2_; have GW110 := n3_; have GE110 := n4_; clear n0_ n1_ n2_ n3_ n4_; clear hb hbox hg))
  go_ret
  exact ⟨_, rfl, (show IsS114 w0 _ gb110 a0 false from ⟨by (with_reducible repeat (first | refine blk_drewN ?_ _ | refine blk_drew ?_ | refine blk_alloc ?_ _)); exact BK110.out, GE110.out⟩), by repeat (first | (with_reducible first | exact HB.out | apply below_alloc | apply pw_below_drewN | apply below_drew1 | refine below_set ?_ GE110.out) | exact HB.out), by repeat (first | (with_reducible first | exact HBW.out | apply below_alloc | apply pw_below_drewN | apply below_drew1 | refine below_set ?_ GW110.out) | exact HBW.out)⟩

/-! ### strconv_Itoa: function 72 -/
def strconv_Itoa.f (a0 : Int) : Option ByteArray := if -9223372036854775808 ≤ a0 then if a0 ≤ 9223372036854775807 then some ⟨(Lib.itoa a0).toArray⟩ else none else none
theorem strconv_Itoa.tells {a0 : Int} (h : WireMath.isInt a0) : strconv_Itoa.f a0 = some ⟨(Lib.itoa a0).toArray⟩ := by
  unfold strconv_Itoa.f
  rw [if_pos h.1, if_pos h.2]
theorem strconv_Itoa.calls (a0 : Int) (r : ByteArray) (w : World) (h : strconv_Itoa.f a0 = some r) (hT : Tabs w) :
    Calls Tryd.prog 72 #[.int .i64 a0] w fun e w' => e = .returned (.string r) ∧ Below w.heap.size w w' := by
  unfold strconv_Itoa.f at h
  split at h
  · rename_i h0
    split at h
    · rename_i h1
      obtain rfl := Option.some.inj h
      refine (Tryd.strconv_Itoa a0 h0 h1 w hT.1).mono ?_
      rintro e w' ⟨rfl, k, os, rfl⟩
      exact ⟨rfl, Lib.below_grow _ _ (Nat.le_refl _) _ _⟩
    · cases h
  · cases h

/-! ### wire_Reader_fail: function 81 -/
def wire_Reader_fail.f (s0_0 : ByteArray) (s0_1 : Bool) : Option (ByteArray × Bool) := some ((⟨#[]⟩ : ByteArray), true)
set_option maxHeartbeats 8000000 in
set_option maxRecDepth 100000 in
theorem wire_Reader_fail.calls (g : Nat) (s0_0 : ByteArray) (s0_1 : Bool) (r1 : ByteArray) (r2 : Bool) (w0 w : World) (hI : IsS114 w0 w g s0_0 s0_1) (hB : Below w0.heap.size w0 w) (h : wire_Reader_fail.f s0_0 s0_1 = some (r1, r2)) :
    Calls Tryd.prog 81 #[.pointer (some ⟨g, 0, none⟩)] w fun e w' => e = .returned (.tuple #[]) ∧ IsS114 w0 w' g r1 r2 ∧ Below w0.heap.size w0 w' ∧ KeepBut w w' g none := by
  have HI0 := Aside0.mk hI
  have HK := Aside0.mk (KeepBut.refl w g none)
  have HL := Aside0.mk hB.size
  clear hI
  have HW0 := Aside0.mk hB.size
  have HB := Aside0.mk hB
  clear hB
  have H : (some ((⟨#[]⟩ : ByteArray), true)) = some (r1, r2) := h
  clear h
  simp only [Option.some.injEq, Prod.mk.injEq] at H
  obtain ⟨rfl, rfl⟩ := H
  obtain ⟨HGz2, hgz2⟩ := HI0.out
  have hcz2_0 := cellS114_0 HGz2
  have hcz2_1 := cellS114_1 HGz2
  have hfz2_0 := blk_frozen HGz2 0
  have hfz2_1 := blk_frozen HGz2 1
  clear HGz2 hgz2
  go_enter Tryd.func81, Tryd.ntmps81
  go_wp2
  first | go_end0 | ((try simp only [Exit.inBlock, Exit.then]); refine bodyPost_ret (results_none rfl _ _ _) rfl ?_)
  exact ⟨by first | rfl | (simp [errW_none, errW_some] <;> rfl) | (simp [*, errW_none, errW_some] <;> rfl), by repeat (first | (with_reducible first | exact HI0.out | apply IsS114.alloc | apply IsS114.drewN | apply IsS114.drew | apply IsS114.set_0 | apply IsS114.set_1) | exact HI0.out), by repeat (first | (with_reducible first | exact HB.out | apply below_alloc | apply pw_below_drewN | apply below_drew1 | refine below_set ?_ (IsS114.ge HI0.out)) | exact HB.out), by repeat (first | (with_reducible first | exact HK.out | apply KeepBut.set_ | apply keep_drewN | apply keep_drew | apply keep_alloc) | exact HK.out)⟩

/-! ### wire_Reader_number: function 71 -/
def wire_Reader_number.rd (s : ByteArray) (b : Bool) : WireMath.Rd := (s.data.toList, b)
def wire_Reader_number.f (s0_0 : ByteArray) (s0_1 : Bool) (a1 : Int) (a2 : Int) : Option (Int × ByteArray × Bool) :=
  if 57 < a1 ∧ a1 ≤ 255 then some ((WireMath.number a1.toNat.toUInt8 a2 (wire_Reader_number.rd s0_0 s0_1)).1, ⟨(WireMath.number a1.toNat.toUInt8 a2 (wire_Reader_number.rd s0_0 s0_1)).2.1.toArray⟩, (WireMath.number a1.toNat.toUInt8 a2 (wire_Reader_number.rd s0_0 s0_1)).2.2) else none
theorem wire_Reader_number.head (s : ByteArray) : ∃ H : ByteArray, H.data.toList = s.data.toList.take 21 ∧ H.size ≤ 21 ∧ (s = H ∧ s.size ≤ 21 ∨ H = s.extract 0 21 ∧ 21 < s.size) := by
  have hl : s.data.toList.length = s.size := by rw [Array.length_toList]; rfl
  rcases Nat.lt_or_ge 21 s.size with h | h
  · refine ⟨s.extract 0 21, ?_, ?_, .inr ⟨rfl, h⟩⟩
    · rw [ByteArray.data_extract]; simp
    · rw [ByteArray.size_extract]; omega
  · exact ⟨s, by rw [List.take_of_length_le (by omega)], h, .inl ⟨rfl, h⟩⟩
theorem wire_Reader_number.front (s H : ByteArray) (n : Nat) (hl : H.data.toList = s.data.toList.take 21) : (H.extract 0 n).data.toList = (s.data.toList.take 21).take n := by
  rw [← hl, ByteArray.data_extract]; simp
theorem wire_Reader_number.keepd {w W : World} {g n : Nat} (h : KeepBut (w.drewN n) W g none) : KeepBut w W g none := (keep_drewN (KeepBut.refl w g none) n).trans h (.inl rfl)
set_option maxHeartbeats 4000000 in
set_option maxRecDepth 100000 in
theorem wire_Reader_number.none_ (g : Nat) (s : ByteArray) (b : Bool) (a1 a2 : Int) (w0 w : World) (hI : IsS114 w0 w g s b) (hB : Below w0.heap.size w0 w) (hi : Lib.indexByte (s.data.toList.take 21) a1.toNat.toUInt8 = -1) :
    Calls Tryd.prog 71 #[.pointer (some ⟨g, 0, none⟩), .int .u8 a1, .int .i64 a2] w fun e w' => e = .returned (.int .i64 0) ∧ IsS114 w0 w' g ⟨#[]⟩ true ∧ Below w0.heap.size w0 w' ∧ KeepBut w w' g none := by
  obtain ⟨H, hl, hH1, hc⟩ := wire_Reader_number.head s
  rw [← hl] at hi
  have HI := Aside0.mk hI
  have HB := Aside0.mk hB
  have HX := Aside0.mk hi
  obtain ⟨hb, _⟩ := HI.out
  have hc0 := cellS114_0 hb
  clear hI hB hi hb hl
  rcases hc with ⟨rfl, hs⟩ | ⟨rfl, hs⟩
  all_goals
    go_enter Tryd.func71, Tryd.ntmps71
    go_wp2
    go_quiet (fail)
    go_wp2_with fail
    refine (Tryd.strings_IndexByte _ _ _).mono ?_
    rintro e w' ⟨rfl, rfl⟩
    rw [HX.out]
    go_wp2_with (go_at_call 81; refine (wire_Reader_fail.calls g _ _ _ _ w0 _ (IsS114.drewN HI.out _) (pw_below_drewN HB.out _) rfl).mono ?_; rintro e w3 ⟨rfl, hi3, hb3, hk3⟩; have HE := Aside0.mk (And.intro hi3 (And.intro hb3 (wire_Reader_number.keepd hk3))); clear hi3 hb3 hk3)
    go_ret
    exact ⟨rfl, HE.out⟩
set_option maxHeartbeats 4000000 in
set_option maxRecDepth 100000 in
/-- Behind the byte that ends the number: what is before it is no numeral. -/
theorem wire_Reader_number.bad (g : Nat) (s : ByteArray) (b : Bool) (a1 a2 : Int) (w0 w : World) (hI : IsS114 w0 w g s b) (hB : Below w0.heap.size w0 w) (hT : Tabs w0) (n : Nat) (hi : Lib.indexByte (s.data.toList.take 21) a1.toNat.toUInt8 = (n : Int)) (hn : n ≤ 20) (hns : n < s.size)
    (hat : ∀ v, Lib.atoiAll ((s.data.toList.take 21).take n) ≠ .ok v) :
    Calls Tryd.prog 71 #[.pointer (some ⟨g, 0, none⟩), .int .u8 a1, .int .i64 a2] w fun e w' => e = .returned (.int .i64 0) ∧ IsS114 w0 w' g ⟨#[]⟩ true ∧ Below w0.heap.size w0 w' ∧ KeepBut w w' g none := by
  obtain ⟨H, hl, hH1, hc⟩ := wire_Reader_number.head s
  rw [← hl] at hi
  have HF : Aside0 (∀ W : World, Below w0.heap.size w0 W → Calls Tryd.prog 82 #[.string (H.extract 0 n)] W fun e w' => ∃ (z : Int) (T : TypeId) (p : Value), e = .returned (.tuple #[.int .i64 z, .iface T p]) ∧ Below W.heap.size W w') := ⟨fun W hW => by
    have hsz : (H.extract 0 n).size ≤ 281474976710656 := by rw [ByteArray.size_extract]; omega
    have hfr := wire_Reader_number.front s H n hl
    obtain ⟨_, ⟨t2, p2, h2⟩, t3, p3, h3⟩ := hT.below hW
    cases hr : Lib.atoiAll ((s.data.toList.take 21).take n) with
    | ok v => exact absurd hr (hat v)
    | range =>
      refine (Tryd.strconv_Atoi_range_var _ hsz (by rw [hfr]; exact hr) t3 p3 W h3).mono ?_
      rintro e w' ⟨N, rfl, _, _, hb⟩
      exact ⟨_, _, _, rfl, hb⟩
    | _ =>
      refine (Tryd.strconv_Atoi_syntax_var _ hsz (by rw [hfr]; exact hr) t2 p2 W h2).mono ?_
      rintro e w' ⟨N, rfl, _, _, hb⟩
      exact ⟨_, _, _, rfl, hb⟩⟩
  have HI := Aside0.mk hI
  have HB := Aside0.mk hB
  have HX := Aside0.mk hi
  obtain ⟨hb, _⟩ := HI.out
  have hc0 := cellS114_0 hb
  have hnH : n ≤ H.size := by
    rcases hc with ⟨rfl, hs⟩ | ⟨rfl, hs⟩
    · omega
    · rw [ByteArray.size_extract]; omega
  clear hI hB hi hb hl hat hT
  rcases hc with ⟨rfl, hs⟩ | ⟨rfl, hs⟩
  all_goals
    go_enter Tryd.func71, Tryd.ntmps71
    go_wp2
    go_quiet (fail)
    go_wp2_with fail
    refine (Tryd.strings_IndexByte _ _ _).mono ?_
    rintro e w' ⟨rfl, rfl⟩
    rw [HX.out]
    go_wp2_with fail
    refine (HF.out _ (pw_below_drewN HB.out _)).mono ?_
    rintro e w2 ⟨z, T, p, rfl, hb2⟩
    have HI2 := Aside0.mk (IsS114.below (IsS114.drewN HI.out _) hb2)
    have HB2 := Aside0.mk (below_step (pw_below_drewN HB.out _) hb2)
    have HK2 := Aside0.mk (KeepBut.trans (keep_drewN (KeepBut.refl w g none) _) (KeepBut.of_below hb2 g none) (.inl rfl))
    clear hb2
    go_wp2
    go_quiet (fail)
    go_wp2_with (go_at_call 81; refine (wire_Reader_fail.calls g _ _ _ _ w0 _ (IsS114.drewN HI2.out _) (pw_below_drewN HB2.out _) rfl).mono ?_; rintro e w3 ⟨rfl, hi3, hb3, hk3⟩; have HE := Aside0.mk (And.intro hi3 (And.intro hb3 (HK2.out.trans (wire_Reader_number.keepd hk3) (.inl rfl)))); clear hi3 hb3 hk3)
    go_ret
    exact ⟨rfl, HE.out⟩
/-- what goes along from world to world -/
def wire_Reader_number.St (w0 w : World) (g : Nat) (s : ByteArray) (b : Bool) (W : World) : Prop := IsS114 w0 W g s b ∧ Below w0.heap.size w0 W ∧ KeepBut w W g none
theorem wire_Reader_number.St.drew {w0 w : World} {g : Nat} {s : ByteArray} {b : Bool} {W : World} (h : wire_Reader_number.St w0 w g s b W) : wire_Reader_number.St w0 w g s b W.drew := ⟨IsS114.drew h.1, below_drew h.2.1, keep_drew h.2.2⟩
theorem wire_Reader_number.St.drewN {w0 w : World} {g : Nat} {s : ByteArray} {b : Bool} {W : World} (h : wire_Reader_number.St w0 w g s b W) (n : Nat) : wire_Reader_number.St w0 w g s b (W.drewN n) := ⟨IsS114.drewN h.1 n, pw_below_drewN h.2.1 n, keep_drewN h.2.2 n⟩
theorem wire_Reader_number.St.on {w0 w : World} {g : Nat} {s : ByteArray} {b : Bool} {W W1 : World} (h : wire_Reader_number.St w0 w g s b W) (hb : Below W.heap.size W W1) : wire_Reader_number.St w0 w g s b W1 := ⟨IsS114.below h.1 hb, below_step h.2.1 hb, h.2.2.trans (KeepBut.of_below hb g none) (.inl rfl)⟩
theorem wire_Reader_number.St.b {w0 w : World} {g : Nat} {s : ByteArray} {b : Bool} {W : World} (h : wire_Reader_number.St w0 w g s b W) : Below w0.heap.size w0 W := h.2.1
set_option maxHeartbeats 4000000 in
set_option maxRecDepth 100000 in
theorem wire_Reader_number.good (g : Nat) (s : ByteArray) (b : Bool) (a1 a2 : Int) (w0 w : World) (hI : IsS114 w0 w g s b) (hB : Below w0.heap.size w0 w) (hT : Tabs w0) (n : Nat) (hi : Lib.indexByte (s.data.toList.take 21) a1.toNat.toUInt8 = (n : Int)) (hn : n ≤ 20) (hns : n < s.size)
    (v : Int) (hv : WireMath.isInt v) (hat : Lib.atoiAll ((s.data.toList.take 21).take n) = .ok v) (c d : Bool) (hc : c = decide (Lib.itoa v = (s.data.toList.take 21).take n)) (hd : d = decide (v < a2)) :
    Calls Tryd.prog 71 #[.pointer (some ⟨g, 0, none⟩), .int .u8 a1, .int .i64 a2] w fun e w' => e = .returned (.int .i64 (if c && !d then v else 0)) ∧ IsS114 w0 w' g (if c && !d then s.extract (n + 1) s.size else ⟨#[]⟩) (if c && !d then b else true) ∧ Below w0.heap.size w0 w' ∧ KeepBut w w' g none := by
  obtain ⟨H, hl, hH1, hcs⟩ := wire_Reader_number.head s
  have hfr := wire_Reader_number.front s H n hl
  rw [← hl] at hi
  obtain ⟨t, ht⟩ : ∃ t : ByteArray, t = ⟨(Lib.itoa v).toArray⟩ := ⟨_, rfl⟩
  have HF : Aside0 (∀ W : World, Calls Tryd.prog 82 #[.string (H.extract 0 n)] W fun e w' => e = .returned (.tuple #[.int .i64 v, .nilIface]) ∧ Below W.heap.size W w') := ⟨fun W => by
    refine (Tryd.strconv_Atoi_ok _ (by rw [ByteArray.size_extract]; omega) v (by rw [hfr]; exact hat) W).mono ?_
    rintro e w' ⟨rfl, hw⟩
    refine ⟨rfl, ?_⟩
    rcases hw with rfl | ⟨t, rfl⟩
    · exact Below.refl _ _
    · exact Lib.bytesWorld_below _ _ _⟩
  have HG : Aside0 (strconv_Itoa.f v = some t) := ⟨by rw [ht]; exact strconv_Itoa.tells hv⟩
  have hcmp : (t.toList == (H.extract 0 n).toList) = c := by
    rw [hc, ht, ByteArray.toList_eq, ByteArray.toList_eq, hfr, Bool.eq_iff_iff]; simp
  have hcmp2 : (t.toList != (H.extract 0 n).toList) = !c := by rw [bne, hcmp]
  have hdec : decide (v < a2) = d := hd.symm
  have HI := Aside0.mk (show wire_Reader_number.St w0 w g s b w from ⟨hI, hB, KeepBut.refl w g none⟩)
  have HT := Aside0.mk hT
  have HX := Aside0.mk hi
  obtain ⟨hb, _⟩ := hI
  have hc0 := cellS114_0 hb
  have hfz := blk_frozen hb 0
  have hnH : n ≤ H.size := by
    rcases hcs with ⟨rfl, hs⟩ | ⟨rfl, hs⟩
    · omega
    · rw [ByteArray.size_extract]; omega
  clear hB hi hb hl hat hT hfr ht hc hd
  rcases hcs with ⟨rfl, hs⟩ | ⟨he, hs⟩
  · skip
    cases c
    · skip
      go_enter Tryd.func71, Tryd.ntmps71
      go_wp2
      go_quiet (fail)
      go_wp2_with fail
      refine (Tryd.strings_IndexByte _ _ _).mono ?_
      rintro e w' ⟨rfl, rfl⟩
      rw [HX.out]
      go_wp2_with fail
      refine (HF.out _).mono ?_
      rintro e w2 ⟨rfl, hb2⟩
      have HI2 := Aside0.mk ((HI.out.drewN _).on hb2)
      clear hb2
      go_wp2
      first | (go_region_with (go_at_call 72; refine (strconv_Itoa.calls v t _ HG.out (HT.out.below HI2.out.drew.2.1)).mono ?_; rintro e w3 ⟨rfl, hb3⟩; have HI3 := Aside0.mk (HI2.out.drew.on hb3); clear hb3)) | fail
      all_goals
        go_wp2_with (go_at_call 81; refine (wire_Reader_fail.calls g _ _ _ _ w0 _ HI3.out.1 HI3.out.2.1 rfl).mono ?_; rintro e w4 ⟨rfl, hi4, hb4, hk4⟩; have HE4 := Aside0.mk (And.intro hi4 (And.intro hb4 (HI3.out.2.2.trans hk4 (.inl rfl)))); clear hi4 hb4 hk4)
        go_ret
        exact ⟨rfl, HE4.out⟩
    · cases d
      · skip
        go_enter Tryd.func71, Tryd.ntmps71
        go_wp2
        go_quiet (fail)
        go_wp2_with fail
        refine (Tryd.strings_IndexByte _ _ _).mono ?_
        rintro e w' ⟨rfl, rfl⟩
        rw [HX.out]
        go_wp2_with fail
        refine (HF.out _).mono ?_
        rintro e w2 ⟨rfl, hb2⟩
        have HI2 := Aside0.mk ((HI.out.drewN _).on hb2)
        clear hb2
        go_wp2
        first | (go_region_held3 (wire_Reader_number.St w0 w g s b) (first | exact HI2.out.drew | exact HI3.out | assumption) (first | (go_at_call 72; refine (strconv_Itoa.calls v t _ HG.out (HT.out.below (wire_Reader_number.St.b (w := w) (g := g) (s := s) (b := b) (by assumption)))).mono ?_; rintro e w3 ⟨rfl, hb3⟩; have HI3 := Aside0.mk (wire_Reader_number.St.on (w0 := w0) (w := w) (g := g) (s := s) (b := b) (by assumption) hb3); clear hb3))) | fail
        all_goals
          obtain ⟨hb3, _⟩ := HI3.out.1
          have hc3 := cellS114_0 hb3
          have hf3 := blk_frozen hb3 0
          have hn1 : (0 : Int) ≤ (n : Int) + 1 := by omega
          have hn2 : (n : Int) + 1 ≤ (s.size : Int) := by omega
          clear hb3
          go_wp2
          go_ret
          exact ⟨rfl, IsS114.set_0 HI3.out.1 _, below_set HI3.out.2.1 (IsS114.ge HI3.out.1), KeepBut.set_ HI3.out.2.2 _ _⟩
      · skip
        go_enter Tryd.func71, Tryd.ntmps71
        go_wp2
        go_quiet (fail)
        go_wp2_with fail
        refine (Tryd.strings_IndexByte _ _ _).mono ?_
        rintro e w' ⟨rfl, rfl⟩
        rw [HX.out]
        go_wp2_with fail
        refine (HF.out _).mono ?_
        rintro e w2 ⟨rfl, hb2⟩
        have HI2 := Aside0.mk ((HI.out.drewN _).on hb2)
        clear hb2
        go_wp2
        first | (go_region_held3 (wire_Reader_number.St w0 w g s b) (first | exact HI2.out.drew | exact HI3.out | assumption) (first | (go_at_call 72; refine (strconv_Itoa.calls v t _ HG.out (HT.out.below (wire_Reader_number.St.b (w := w) (g := g) (s := s) (b := b) (by assumption)))).mono ?_; rintro e w3 ⟨rfl, hb3⟩; have HI3 := Aside0.mk (wire_Reader_number.St.on (w0 := w0) (w := w) (g := g) (s := s) (b := b) (by assumption) hb3); clear hb3))) | fail
        all_goals
          go_wp2_with (go_at_call 81; refine (wire_Reader_fail.calls g _ _ _ _ w0 _ HI3.out.1 HI3.out.2.1 rfl).mono ?_; rintro e w4 ⟨rfl, hi4, hb4, hk4⟩; have HE4 := Aside0.mk (And.intro hi4 (And.intro hb4 (HI3.out.2.2.trans hk4 (.inl rfl)))); clear hi4 hb4 hk4)
          go_ret
          exact ⟨rfl, HE4.out⟩
  · have HE := Aside0.mk he
    clear he
    cases c
    · skip
      go_enter Tryd.func71, Tryd.ntmps71
      go_wp2
      go_quiet (fail)
      rw [← HE.out]
      go_wp2_with fail
      refine (Tryd.strings_IndexByte _ _ _).mono ?_
      rintro e w' ⟨rfl, rfl⟩
      rw [HX.out]
      go_wp2_with fail
      refine (HF.out _).mono ?_
      rintro e w2 ⟨rfl, hb2⟩
      have HI2 := Aside0.mk ((HI.out.drewN _).on hb2)
      clear hb2
      go_wp2
      first | (go_region_with (go_at_call 72; refine (strconv_Itoa.calls v t _ HG.out (HT.out.below HI2.out.drew.2.1)).mono ?_; rintro e w3 ⟨rfl, hb3⟩; have HI3 := Aside0.mk (HI2.out.drew.on hb3); clear hb3)) | fail
      all_goals
        go_wp2_with (go_at_call 81; refine (wire_Reader_fail.calls g _ _ _ _ w0 _ HI3.out.1 HI3.out.2.1 rfl).mono ?_; rintro e w4 ⟨rfl, hi4, hb4, hk4⟩; have HE4 := Aside0.mk (And.intro hi4 (And.intro hb4 (HI3.out.2.2.trans hk4 (.inl rfl)))); clear hi4 hb4 hk4)
        go_ret
        exact ⟨rfl, HE4.out⟩
    · cases d
      · skip
        go_enter Tryd.func71, Tryd.ntmps71
        go_wp2
        go_quiet (fail)
        rw [← HE.out]
        go_wp2_with fail
        refine (Tryd.strings_IndexByte _ _ _).mono ?_
        rintro e w' ⟨rfl, rfl⟩
        rw [HX.out]
        go_wp2_with fail
        refine (HF.out _).mono ?_
        rintro e w2 ⟨rfl, hb2⟩
        have HI2 := Aside0.mk ((HI.out.drewN _).on hb2)
        clear hb2
        go_wp2
        first | (go_region_held3 (wire_Reader_number.St w0 w g s b) (first | exact HI2.out.drew | exact HI3.out | assumption) (first | (go_at_call 72; refine (strconv_Itoa.calls v t _ HG.out (HT.out.below (wire_Reader_number.St.b (w := w) (g := g) (s := s) (b := b) (by assumption)))).mono ?_; rintro e w3 ⟨rfl, hb3⟩; have HI3 := Aside0.mk (wire_Reader_number.St.on (w0 := w0) (w := w) (g := g) (s := s) (b := b) (by assumption) hb3); clear hb3))) | fail
        all_goals
          obtain ⟨hb3, _⟩ := HI3.out.1
          have hc3 := cellS114_0 hb3
          have hf3 := blk_frozen hb3 0
          have hn1 : (0 : Int) ≤ (n : Int) + 1 := by omega
          have hn2 : (n : Int) + 1 ≤ (s.size : Int) := by omega
          clear hb3
          go_wp2
          go_ret
          exact ⟨rfl, IsS114.set_0 HI3.out.1 _, below_set HI3.out.2.1 (IsS114.ge HI3.out.1), KeepBut.set_ HI3.out.2.2 _ _⟩
      · skip
        go_enter Tryd.func71, Tryd.ntmps71
        go_wp2
        go_quiet (fail)
        rw [← HE.out]
        go_wp2_with fail
        refine (Tryd.strings_IndexByte _ _ _).mono ?_
        rintro e w' ⟨rfl, rfl⟩
        rw [HX.out]
        go_wp2_with fail
        refine (HF.out _).mono ?_
        rintro e w2 ⟨rfl, hb2⟩
        have HI2 := Aside0.mk ((HI.out.drewN _).on hb2)
        clear hb2
        go_wp2
        first | (go_region_held3 (wire_Reader_number.St w0 w g s b) (first | exact HI2.out.drew | exact HI3.out | assumption) (first | (go_at_call 72; refine (strconv_Itoa.calls v t _ HG.out (HT.out.below (wire_Reader_number.St.b (w := w) (g := g) (s := s) (b := b) (by assumption)))).mono ?_; rintro e w3 ⟨rfl, hb3⟩; have HI3 := Aside0.mk (wire_Reader_number.St.on (w0 := w0) (w := w) (g := g) (s := s) (b := b) (by assumption) hb3); clear hb3))) | fail
        all_goals
          go_wp2_with (go_at_call 81; refine (wire_Reader_fail.calls g _ _ _ _ w0 _ HI3.out.1 HI3.out.2.1 rfl).mono ?_; rintro e w4 ⟨rfl, hi4, hb4, hk4⟩; have HE4 := Aside0.mk (And.intro hi4 (And.intro hb4 (HI3.out.2.2.trans hk4 (.inl rfl)))); clear hi4 hb4 hk4)
          go_ret
          exact ⟨rfl, HE4.out⟩
theorem wire_Reader_number.rest (s : ByteArray) (n : Nat) (t : List UInt8) (h : s.data.toList.drop (n + 1) = t) : (⟨t.toArray⟩ : ByteArray) = s.extract (n + 1) s.size := by
  apply ByteArray.ext
  apply Array.ext'
  rw [ByteArray.data_extract, Array.toList_extract, ← h]
  have hl : s.data.toList.length = s.size := by rw [Array.length_toList]; rfl
  simp only [List.extract_eq_take_drop]
  rw [List.take_of_length_le (by rw [List.length_drop]; omega)]
theorem wire_Reader_number.calls (g : Nat) (s0_0 : ByteArray) (s0_1 : Bool) (a1 : Int) (a2 : Int) (r1 : Int) (r2 : ByteArray) (r3 : Bool) (w0 w : World) (hI : IsS114 w0 w g s0_0 s0_1) (hB : Below w0.heap.size w0 w) (h : wire_Reader_number.f s0_0 s0_1 a1 a2 = some (r1, r2, r3)) (hT : Tabs w0) :
    Calls Tryd.prog 71 #[.pointer (some ⟨g, 0, none⟩), .int .u8 a1, .int .i64 a2] w fun e w' => e = .returned (.int .i64 r1) ∧ IsS114 w0 w' g r2 r3 ∧ Below w0.heap.size w0 w' ∧ KeepBut w w' g none := by
  unfold wire_Reader_number.f at h
  split at h
  · rename_i hc
    simp only [Option.some.injEq, Prod.mk.injEq] at h
    obtain ⟨rfl, rfl, rfl⟩ := h
    have hsl : s0_0.data.toList.length = s0_0.size := by rw [Array.length_toList]; rfl
    cases hs : WireMath.scan a1.toNat.toUInt8 s0_0.data.toList with
    | none =>
      have hr : WireMath.rdNum a1.toNat.toUInt8 a2 (wire_Reader_number.rd s0_0 s0_1).1 = none := by unfold WireMath.rdNum wire_Reader_number.rd; simp only [hs]
      rw [WireMath.number_none hr]
      exact wire_Reader_number.none_ g s0_0 s0_1 a1 a2 w0 w hI hB (WireMath.scan_none hs)
    | some p =>
      obtain ⟨hd, t⟩ := p
      obtain ⟨h1, h2, h3, h4, h5⟩ := WireMath.scan_index hs
      rw [hsl] at h5
      have hbad : (∀ v, Lib.atoiAll hd ≠ .ok v) → WireMath.rdNum a1.toNat.toUInt8 a2 (wire_Reader_number.rd s0_0 s0_1).1 = none := by
        intro hn
        unfold WireMath.rdNum wire_Reader_number.rd; simp only [hs]
        all_goals
          cases hat : Lib.atoiAll hd with
          | ok v => exact absurd hat (hn v)
          | range => rfl
          | _ => rfl
      cases hat : Lib.atoiAll hd with
      | ok v =>
        have hv := Lib.atoiAll_bounds hat
        refine (wire_Reader_number.good g s0_0 s0_1 a1 a2 w0 w hI hB hT hd.length h1 h4 h5 v hv (by rw [h2]; exact hat) _ _ rfl rfl).mono ?_
        rw [h2]
        have hr : WireMath.rdNum a1.toNat.toUInt8 a2 (wire_Reader_number.rd s0_0 s0_1).1 = if Lib.itoa v = hd ∧ a2 ≤ v then some (v, t) else none := by
          unfold WireMath.rdNum wire_Reader_number.rd; simp only [hs, hat]
        by_cases hg : Lib.itoa v = hd ∧ a2 ≤ v
        · rw [if_pos hg] at hr
          rw [WireMath.number_some hr, wire_Reader_number.rest _ _ _ h3]
          have e1 : decide (Lib.itoa v = hd) = true := decide_eq_true hg.1
          have e2 : decide (v < a2) = false := decide_eq_false (by omega)
          rw [e1, e2]
          rintro e w' hq
          exact hq
        · rw [if_neg hg] at hr
          rw [WireMath.number_none hr]
          have e1 : (decide (Lib.itoa v = hd) && !decide (v < a2)) = false := by
            rw [Bool.eq_false_iff]; intro hx; simp at hx; exact hg ⟨hx.1, by omega⟩
          rw [e1]
          rintro e w' hq
          exact hq
      | range =>
        have hn : ∀ v, Lib.atoiAll hd ≠ .ok v := fun v => by rw [hat]; simp
        rw [WireMath.number_none (hbad hn)]
        exact wire_Reader_number.bad g s0_0 s0_1 a1 a2 w0 w hI hB hT hd.length h1 h4 h5 (by rw [h2]; exact hn)
      | _ =>
        have hn : ∀ v, Lib.atoiAll hd ≠ .ok v := fun v => by rw [hat]; simp
        rw [WireMath.number_none (hbad hn)]
        exact wire_Reader_number.bad g s0_0 s0_1 a1 a2 w0 w hI hB hT hd.length h1 h4 h5 (by rw [h2]; exact hn)
  · cases h

/-! ### wire_Reader_Int: function 43 -/
def wire_Reader_Int.f (s0_0 : ByteArray) (s0_1 : Bool) : Option (Int × ByteArray × Bool) := (wire_Reader_number.f s0_0 s0_1 59 (-9223372036854775808)).bind fun bt111 => (some (bt111.1, bt111.2.1, bt111.2.2))
set_option maxHeartbeats 8000000 in
set_option maxRecDepth 100000 in
theorem wire_Reader_Int.calls (g : Nat) (s0_0 : ByteArray) (s0_1 : Bool) (r1 : Int) (r2 : ByteArray) (r3 : Bool) (w0 w : World) (hI : IsS114 w0 w g s0_0 s0_1) (hB : Below w0.heap.size w0 w) (h : wire_Reader_Int.f s0_0 s0_1 = some (r1, r2, r3)) (hT : Tabs w0) :
    Calls Tryd.prog 43 #[.pointer (some ⟨g, 0, none⟩)] w fun e w' => e = .returned (.int .i64 r1) ∧ IsS114 w0 w' g r2 r3 ∧ Below w0.heap.size w0 w' ∧ KeepBut w w' g none := by
  have HI0 := Aside0.mk hI
  have HK := Aside0.mk (KeepBut.refl w g none)
  have HL := Aside0.mk hB.size
  clear hI
  have HT := Aside0.mk hT
  clear hT
  have HW0 := Aside0.mk hB.size
  have HB := Aside0.mk hB
  clear hB
  have H : ((wire_Reader_number.f s0_0 s0_1 59 (-9223372036854775808)).bind fun bt111 => (some (bt111.1, bt111.2.1, bt111.2.2))) = some (r1, r2, r3) := h
  clear h
  replace H := Option.bind_eq_some_iff.mp H
  obtain ⟨⟨t111, t112, t113⟩, A20, H⟩ := H
  replace H : (some (t111, t112, t113)) = some (r1, r2, r3) := H
  have A2 := Aside0.mk A20
  clear A20
  simp only [Option.some.injEq, Prod.mk.injEq] at H
  obtain ⟨rfl, rfl, rfl⟩ := H
  go_enter Tryd.func43, Tryd.ntmps43
  go_wp2_with (first | ((with_reducible refine gate_callee (f := 71) rfl ?_); refine goesL_ (some 4) rfl rfl Tryd.func71 (by kernel_rfl) rfl #[.pointer (some ⟨g, 0, none⟩), .int .u8 59, .int .i64 (-9223372036854775808)] rfl (by (try simp only [List.map_toArray, List.map_cons, List.map_nil]); first | done | rfl | (simp only [List.length_drop, List.length_take]; rfl)) ?_; (with_reducible refine (wire_Reader_number.calls g s0_0 s0_1 59 (-9223372036854775808) t111 t112 t113 w0 _ ?side1 ?side2 A2.out HT.out).mono ?_); (case side1 => repeat (first | (with_reducible first | exact HI0.out | apply IsS114.alloc | apply IsS114.drewN | apply IsS114.drew | apply IsS114.set_0 | apply IsS114.set_1) | exact HI0.out)); (case side2 => repeat (first | (with_reducible first | exact HB.out | apply below_alloc | apply pw_below_drewN | apply below_drew1 | refine below_set ?_ (IsS114.ge HI0.out)) | exact HB.out)); rintro e w3 ⟨rfl, hi, hb, hk⟩; refine ⟨_, rfl, ?_⟩; have n0_ := Aside0.mk (KeepBut.trans (by repeat (first | (with_reducible first | exact HK.out | apply KeepBut.set_ | apply keep_drewN | apply keep_drew | apply keep_alloc) | exact HK.out)) hk (.inl rfl)); have n1_ := Aside0.mk (hb); have n2_ := Aside0.mk (hi); clear HK; clear HB; clear HI0; have HK := n0_; have HB := n1_; have HI0 := n2_; clear n0_ n1_ n2_; (try clear hb); (try clear hb2); (try clear hk); (try clear hi)))
  go_ret
  exact ⟨by first | rfl | (simp [errW_none, errW_some] <;> rfl) | (simp [*, errW_none, errW_some] <;> rfl), by repeat (first | (with_reducible first | exact HI0.out | apply IsS114.alloc | apply IsS114.drewN | apply IsS114.drew | apply IsS114.set_0 | apply IsS114.set_1) | exact HI0.out), by repeat (first | (with_reducible first | exact HB.out | apply below_alloc | apply pw_below_drewN | apply below_drew1 | refine below_set ?_ (IsS114.ge HI0.out)) | exact HB.out), by repeat (first | (with_reducible first | exact HK.out | apply KeepBut.set_ | apply keep_drewN | apply keep_drew | apply keep_alloc) | exact HK.out)⟩

/-! ### wire_Reader_Done: function 44 -/
def wire_Reader_Done.f (s0_0 : ByteArray) (s0_1 : Bool) : Option (Bool × ByteArray × Bool) := if s0_1 = true then (some (false, s0_0, s0_1)) else (some ((s0_0.toList == ([] : List UInt8)), s0_0, s0_1))
set_option maxHeartbeats 8000000 in
set_option maxRecDepth 100000 in
theorem wire_Reader_Done.calls (g : Nat) (s0_0 : ByteArray) (s0_1 : Bool) (r1 : Bool) (r2 : ByteArray) (r3 : Bool) (w0 w : World) (hI : IsS114 w0 w g s0_0 s0_1) (hB : Below w0.heap.size w0 w) (h : wire_Reader_Done.f s0_0 s0_1 = some (r1, r2, r3)) :
    Calls Tryd.prog 44 #[.pointer (some ⟨g, 0, none⟩)] w fun e w' => e = .returned (.bool r1) ∧ IsS114 w0 w' g r2 r3 ∧ Below w0.heap.size w0 w' ∧ KeepBut w w' g none := by
  have HI0 := Aside0.mk hI
  have HK := Aside0.mk (KeepBut.refl w g none)
  have HL := Aside0.mk hB.size
  clear hI
  have HW0 := Aside0.mk hB.size
  have HB := Aside0.mk hB
  clear hB
  have H : (if s0_1 = true then (some (false, s0_0, s0_1)) else (some ((s0_0.toList == ([] : List UInt8)), s0_0, s0_1))) = some (r1, r2, r3) := h
  clear h
  by_cases c2 : s0_1 = true
  · subst c2
    have H1 : (some (false, s0_0, true)) = some (r1, r2, r3) := by rw [if_pos rfl] at H; exact H
    clear H
    have H := H1
    clear H1
    simp only [Option.some.injEq, Prod.mk.injEq] at H
    obtain ⟨rfl, rfl, rfl⟩ := H
    obtain ⟨HGz3, hgz3⟩ := HI0.out
    have hcz3_0 := cellS114_0 HGz3
    have hcz3_1 := cellS114_1 HGz3
    have hfz3_0 := blk_frozen HGz3 0
    have hfz3_1 := blk_frozen HGz3 1
    clear HGz3 hgz3
    go_enter Tryd.func44, Tryd.ntmps44
    go_wp2
    go_ret
    exact ⟨by first | rfl | (simp [errW_none, errW_some] <;> rfl) | (simp [*, errW_none, errW_some] <;> rfl), by repeat (first | (with_reducible first | exact HI0.out | apply IsS114.alloc | apply IsS114.drewN | apply IsS114.drew | apply IsS114.set_0 | apply IsS114.set_1) | exact HI0.out), by repeat (first | (with_reducible first | exact HB.out | apply below_alloc | apply pw_below_drewN | apply below_drew1 | refine below_set ?_ (IsS114.ge HI0.out)) | exact HB.out), by repeat (first | (with_reducible first | exact HK.out | apply KeepBut.set_ | apply keep_drewN | apply keep_drew | apply keep_alloc) | exact HK.out)⟩
  · replace c2 := Bool.eq_false_iff.mpr c2
    subst c2
    have H1 : (some ((s0_0.toList == ([] : List UInt8)), s0_0, false)) = some (r1, r2, r3) := by rw [if_neg (show ¬ (false = true) by decide)] at H; exact H
    clear H
    have H := H1
    clear H1
    simp only [Option.some.injEq, Prod.mk.injEq] at H
    obtain ⟨rfl, rfl, rfl⟩ := H
    obtain ⟨HGz4, hgz4⟩ := HI0.out
    have hcz4_0 := cellS114_0 HGz4
    have hcz4_1 := cellS114_1 HGz4
    have hfz4_0 := blk_frozen HGz4 0
    have hfz4_1 := blk_frozen HGz4 1
    clear HGz4 hgz4
    go_enter Tryd.func44, Tryd.ntmps44
    go_wp2
    go_ret
    exact ⟨by first | rfl | (simp [errW_none, errW_some] <;> rfl) | (simp [*, errW_none, errW_some] <;> rfl), by repeat (first | (with_reducible first | exact HI0.out | apply IsS114.alloc | apply IsS114.drewN | apply IsS114.drew | apply IsS114.set_0 | apply IsS114.set_1) | exact HI0.out), by repeat (first | (with_reducible first | exact HB.out | apply below_alloc | apply pw_below_drewN | apply below_drew1 | refine below_set ?_ (IsS114.ge HI0.out)) | exact HB.out), by repeat (first | (with_reducible first | exact HK.out | apply KeepBut.set_ | apply keep_drewN | apply keep_drew | apply keep_alloc) | exact HK.out)⟩

/-! ### seam_ReadPass: function 11 -/
def seam_ReadPass.f (a0 : ByteArray) : Option (Int × Int × Int × Bool) := (wire_Open.f a0).bind fun bt115 => ((wire_Reader_Int.f bt115.1 bt115.2).bind fun bt118 => ((wire_Reader_Int.f bt118.2.1 bt118.2.2).bind fun bt121 => ((wire_Reader_Int.f bt121.2.1 bt121.2.2).bind fun bt124 => ((wire_Reader_Done.f bt124.2.1 bt124.2.2).bind fun bt128 => (if bt128.1 = true then (some (bt118.1, bt121.1, bt124.1, true)) else (some (0, 0, 0, false)))))))
set_option maxHeartbeats 8000000 in
set_option maxRecDepth 100000 in
theorem seam_ReadPass.calls (a0 : ByteArray) (r1 : Int) (r2 : Int) (r3 : Int) (r4 : Bool) (w : World) (h : seam_ReadPass.f a0 = some (r1, r2, r3, r4)) (hT : Tabs w) :
    Calls Tryd.prog 11 #[.string a0] w fun e w' => e = .returned (.tuple #[.agg #[.int .i64 r1, .int .i64 r2, .int .i64 r3], .bool r4]) ∧ Below w.heap.size w w' := by
  have hu29 := Tryd.underlying29
  have HT := Aside0.mk hT
  clear hT
  have HB := Aside0.mk (Below.refl w.heap.size w)
  have H : ((wire_Open.f a0).bind fun bt115 => ((wire_Reader_Int.f bt115.1 bt115.2).bind fun bt118 => ((wire_Reader_Int.f bt118.2.1 bt118.2.2).bind fun bt121 => ((wire_Reader_Int.f bt121.2.1 bt121.2.2).bind fun bt124 => ((wire_Reader_Done.f bt124.2.1 bt124.2.2).bind fun bt128 => (if bt128.1 = true then (some (bt118.1, bt121.1, bt124.1, true)) else (some (0, 0, 0, false)))))))) = some (r1, r2, r3, r4) := h
  clear h
  replace H := Option.bind_eq_some_iff.mp H
  obtain ⟨⟨t115, t116⟩, A20, H⟩ := H
  replace H : ((wire_Reader_Int.f t115 t116).bind fun bt118 => ((wire_Reader_Int.f bt118.2.1 bt118.2.2).bind fun bt121 => ((wire_Reader_Int.f bt121.2.1 bt121.2.2).bind fun bt124 => ((wire_Reader_Done.f bt124.2.1 bt124.2.2).bind fun bt128 => (if bt128.1 = true then (some (bt118.1, bt121.1, bt124.1, true)) else (some (0, 0, 0, false))))))) = some (r1, r2, r3, r4) := H
  have A2 := Aside0.mk A20
  clear A20
  replace H := Option.bind_eq_some_iff.mp H
  obtain ⟨⟨t118, t119, t120⟩, A30, H⟩ := H
  replace H : ((wire_Reader_Int.f t119 t120).bind fun bt121 => ((wire_Reader_Int.f bt121.2.1 bt121.2.2).bind fun bt124 => ((wire_Reader_Done.f bt124.2.1 bt124.2.2).bind fun bt128 => (if bt128.1 = true then (some (t118, bt121.1, bt124.1, true)) else (some (0, 0, 0, false)))))) = some (r1, r2, r3, r4) := H
  have A3 := Aside0.mk A30
  clear A30
  replace H := Option.bind_eq_some_iff.mp H
  obtain ⟨⟨t121, t122, t123⟩, A40, H⟩ := H
  replace H : ((wire_Reader_Int.f t122 t123).bind fun bt124 => ((wire_Reader_Done.f bt124.2.1 bt124.2.2).bind fun bt128 => (if bt128.1 = true then (some (t118, t121, bt124.1, true)) else (some (0, 0, 0, false))))) = some (r1, r2, r3, r4) := H
  have A4 := Aside0.mk A40
  clear A40
  replace H := Option.bind_eq_some_iff.mp H
  obtain ⟨⟨t124, t125, t126⟩, A50, H⟩ := H
  replace H : ((wire_Reader_Done.f t125 t126).bind fun bt128 => (if bt128.1 = true then (some (t118, t121, t124, true)) else (some (0, 0, 0, false)))) = some (r1, r2, r3, r4) := H
  have A5 := Aside0.mk A50
  clear A50
  replace H := Option.bind_eq_some_iff.mp H
  obtain ⟨⟨t128, t129, t130⟩, A60, H⟩ := H
  replace H : (if t128 = true then (some (t118, t121, t124, true)) else (some (0, 0, 0, false))) = some (r1, r2, r3, r4) := H
  have A6 := Aside0.mk A60
  clear A60
  by_cases c7 : t128 = true
  · subst c7
    have H1 : (some (t118, t121, t124, true)) = some (r1, r2, r3, r4) := by rw [if_pos rfl] at H; exact H
    clear H
    have H := H1
    clear H1
    simp only [Option.some.injEq, Prod.mk.injEq] at H
    obtain ⟨rfl, rfl, rfl, rfl⟩ := H
    go_enter Tryd.func11, Tryd.ntmps11
    go_wp2_with (first | ((with_reducible refine gate_dst (N := 2) rfl ?_); refine box_event ?hg (N := 2) ?hd (cs := #[.int .i64 0, .int .i64 0, .int .i64 0]) (t := 29) ?hr ?_; (case hd => rfl); (case hg => rfl); (case hr => first | (go_simp; done) | (go_simp; rfl)); intro gb114 hg w8 hbox hb; have n0_ := Aside0.mk (below_step (by repeat (first | (with_reducible first | exact HB.out | apply below_alloc | apply pw_below_drewN | apply below_drew1) | exact HB.out)) hb); have n1_ := Aside0.mk (hbox); have n2_ := Aside0.mk ((by rw [hg]; exact (below_size (by repeat (first | (with_reducible first | exact HB.out | apply below_alloc | apply pw_below_drewN | apply below_drew1) | exact HB.out))) : w.heap.size ≤ gb114)); have n3_ := Aside0.mk ((by rw [hg]; exact (below_size (by repeat (first | (with_reducible first | exact HB.out | apply below_alloc | apply pw_below_drewN | apply below_drew1) | exact HB.out))) : w.heap.size ≤ gb114)); clear HB; have HB := n0_; have BK114 := n1_; have GW114 := n2_; have GE114 := n3_; clear n0_ n1_ n2_ n3_; clear hb hbox hg) | ((with_reducible refine gate_callee (f := 42) rfl ?_); refine goesL_ (some 7) rfl rfl Tryd.func42 (by kernel_rfl) rfl #[.string a0] rfl (by (try simp only [List.map_toArray, List.map_cons, List.map_nil]); first | done | rfl | (simp only [List.length_drop, List.length_take]; rfl)) ?_; (with_reducible refine (wire_Open.calls a0 t115 t116 _ _ (Below.refl _ _) A2.out).mono ?_); rintro e w9 ⟨g117, rfl, hi, hb, hb2⟩; refine ⟨_, rfl, ?_⟩; have n0_ := Aside0.mk (blk_below (g := gb114) (o := .cells #[.int .i64 0, .int .i64 0, .int .i64 0] 29 (0, 0)) (by (with_reducible repeat (first | refine blk_drewN ?_ _ | refine blk_drew ?_ | refine blk_alloc ?_ _)); exact BK114.out) hb2); have n1_ := Aside0.mk (below_step (by repeat (first | (with_reducible first | exact HB.out | apply below_alloc | apply pw_below_drewN | apply below_drew1 | refine below_set ?_ GE114.out) | exact HB.out)) hb); have n2_ := Aside0.mk ((show IsS114 w _ g117 t115 t116 from ⟨hi.1, Nat.le_trans (below_size (by repeat (first | (with_reducible first | exact HB.out | apply below_alloc | apply pw_below_drewN | apply below_drew1 | refine below_set ?_ GE114.out) | exact HB.out))) hi.2⟩)); have n3_ := Aside0.mk (IsS114.ne_blk hi (blk_below (g := gb114) (o := .cells #[.int .i64 0, .int .i64 0, .int .i64 0] 29 (0, 0)) (by (with_reducible repeat (first | refine blk_drewN ?_ _ | refine blk_drew ?_ | refine blk_alloc ?_ _)); exact BK114.out) hb2) (by decide)); have n4_ := Aside0.mk (Ne.symm (IsS114.ne_blk hi (blk_below (g := gb114) (o := .cells #[.int .i64 0, .int .i64 0, .int .i64 0] 29 (0, 0)) (by (with_reducible repeat (first | refine blk_drewN ?_ _ | refine blk_drew ?_ | refine blk_alloc ?_ _)); exact BK114.out) hb2) (by decide))); clear BK114; clear HB; have BK114 := n0_; have HB := n1_; have HI117 := n2_; have NB117_114 := n3_; have NB114_117 := n4_; clear n0_ n1_ n2_ n3_ n4_; (try clear hb); (try clear hb2); (try clear hk); (try clear hi)) | ((with_reducible refine gate_callee (f := 43) rfl ?_); refine goesL_ (some 9) rfl rfl Tryd.func43 (by kernel_rfl) rfl #[.pointer (some ⟨g117, 0, none⟩)] rfl (by (try simp only [List.map_toArray, List.map_cons, List.map_nil]); first | done | rfl | (simp only [List.length_drop, List.length_take]; rfl)) ?_; (with_reducible refine (wire_Reader_Int.calls g117 t115 t116 t118 t119 t120 w _ ?side1 ?side2 A3.out HT.out).mono ?_); (case side1 => repeat (first | (with_reducible first | exact HI117.out | apply IsS114.alloc | apply IsS114.drewN | apply IsS114.drew | apply IsS114.set_0 | apply IsS114.set_1 | refine IsS114.far ?_ NB117_114.out _) | exact HI117.out)); (case side2 => repeat (first | (with_reducible first | exact HB.out | apply below_alloc | apply pw_below_drewN | apply below_drew1 | refine below_set ?_ (IsS114.ge HI117.out) | refine below_set ?_ GE114.out) | exact HB.out)); rintro e w10 ⟨rfl, hi, hb, hk⟩; refine ⟨_, rfl, ?_⟩; have n0_ := Aside0.mk (KeepBut.blk hk (g' := gb114) (o := .cells #[.int .i64 0, .int .i64 0, .int .i64 0] 29 (0, 0)) (by (with_reducible repeat (first | refine blk_drewN ?_ _ | refine blk_drew ?_ | refine blk_alloc ?_ _)); exact BK114.out) NB114_117.out (by simp)); have n1_ := Aside0.mk (hb); have n2_ := Aside0.mk (hi); clear BK114; clear HB; clear HI117; have BK114 := n0_; have HB := n1_; have HI117 := n2_; clear n0_ n1_ n2_; (try clear hb); (try clear hb2); (try clear hk); (try clear hi)) | ((with_reducible refine gate_callee (f := 43) rfl ?_); refine goesL_ (some 11) rfl rfl Tryd.func43 (by kernel_rfl) rfl #[.pointer (some ⟨g117, 0, none⟩)] rfl (by (try simp only [List.map_toArray, List.map_cons, List.map_nil]); first | done | rfl | (simp only [List.length_drop, List.length_take]; rfl)) ?_; (with_reducible refine (wire_Reader_Int.calls g117 t119 t120 t121 t122 t123 w _ ?side1 ?side2 A4.out HT.out).mono ?_); (case side1 => repeat (first | (with_reducible first | exact HI117.out | apply IsS114.alloc | apply IsS114.drewN | apply IsS114.drew | apply IsS114.set_0 | apply IsS114.set_1 | refine IsS114.far ?_ NB117_114.out _) | exact HI117.out)); (case side2 => repeat (first | (with_reducible first | exact HB.out | apply below_alloc | apply pw_below_drewN | apply below_drew1 | refine below_set ?_ (IsS114.ge HI117.out) | refine below_set ?_ GE114.out) | exact HB.out)); rintro e w11 ⟨rfl, hi, hb, hk⟩; refine ⟨_, rfl, ?_⟩; have n0_ := Aside0.mk (KeepBut.blk hk (g' := gb114) (o := .cells #[.int .i64 0, .int .i64 0, .int .i64 0] 29 (0, 0)) (by (with_reducible repeat (first | refine blk_drewN ?_ _ | refine blk_drew ?_ | refine blk_alloc ?_ _)); exact BK114.out) NB114_117.out (by simp)); have n1_ := Aside0.mk (hb); have n2_ := Aside0.mk (hi); clear BK114; clear HB; clear HI117; have BK114 := n0_; have HB := n1_; have HI117 := n2_; clear n0_ n1_ n2_; (try clear hb); (try clear hb2); (try clear hk); (try clear hi)) | ((with_reducible refine gate_callee (f := 43) rfl ?_); refine goesL_ (some 13) rfl rfl Tryd.func43 (by kernel_rfl) rfl #[.pointer (some ⟨g117, 0, none⟩)] rfl (by (try simp only [List.map_toArray, List.map_cons, List.map_nil]); first | done | rfl | (simp only [List.length_drop, List.length_take]; rfl)) ?_; (with_reducible refine (wire_Reader_Int.calls g117 t122 t123 t124 t125 t126 w _ ?side1 ?side2 A5.out HT.out).mono ?_); (case side1 => repeat (first | (with_reducible first | exact HI117.out | apply IsS114.alloc | apply IsS114.drewN | apply IsS114.drew | apply IsS114.set_0 | apply IsS114.set_1 | refine IsS114.far ?_ NB117_114.out _) | exact HI117.out)); (case side2 => repeat (first | (with_reducible first | exact HB.out | apply below_alloc | apply pw_below_drewN | apply below_drew1 | refine below_set ?_ (IsS114.ge HI117.out) | refine below_set ?_ GE114.out) | exact HB.out)); rintro e w12 ⟨rfl, hi, hb, hk⟩; refine ⟨_, rfl, ?_⟩; have n0_ := Aside0.mk (KeepBut.blk hk (g' := gb114) (o := .cells #[.int .i64 0, .int .i64 0, .int .i64 0] 29 (0, 0)) (by (with_reducible repeat (first | refine blk_drewN ?_ _ | refine blk_drew ?_ | refine blk_alloc ?_ _)); exact BK114.out) NB114_117.out (by simp)); have n1_ := Aside0.mk (hb); have n2_ := Aside0.mk (hi); clear BK114; clear HB; clear HI117; have BK114 := n0_; have HB := n1_; have HI117 := n2_; clear n0_ n1_ n2_; (try clear hb); (try clear hb2); (try clear hk); (try clear hi)) | ((with_reducible refine gate_dst (N := 5) rfl ?_); refine box_event ?hg (N := 5) ?hd (cs := #[.int .i64 0, .int .i64 0, .int .i64 0]) (t := 29) ?hr ?_; (case hd => rfl); (case hg => rfl); (case hr => first | (go_simp; done) | (go_simp; rfl)); intro gb127 hg w13 hbox hb; have n0_ := Aside0.mk (blk_below (g := gb114) (o := .cells #[.int .i64 0, .int .i64 0, .int .i64 0] 29 (0, 0)) (by (with_reducible repeat (first | refine blk_drewN ?_ _ | refine blk_drew ?_ | refine blk_alloc ?_ _)); exact BK114.out) hb); have n1_ := Aside0.mk (IsS114.below (by repeat (first | (with_reducible first | exact HI117.out | apply IsS114.alloc | apply IsS114.drewN | apply IsS114.drew | apply IsS114.set_0 | apply IsS114.set_1 | refine IsS114.far ?_ NB117_114.out _) | exact HI117.out)) hb); have n2_ := Aside0.mk (below_step (by repeat (first | (with_reducible first | exact HB.out | apply below_alloc | apply pw_below_drewN | apply below_drew1 | refine below_set ?_ (IsS114.ge HI117.out) | refine below_set ?_ GE114.out) | exact HB.out)) hb); have n3_ := Aside0.mk (hbox); have n4_ := Aside0.mk ((by rw [hg]; exact (below_size (by repeat (first | (with_reducible first | exact HB.out | apply below_alloc | apply pw_below_drewN | apply below_drew1 | refine below_set ?_ (IsS114.ge HI117.out) | refine below_set ?_ GE114.out) | exact HB.out))) : w.heap.size ≤ gb127)); have n5_ := Aside0.mk ((by rw [hg]; exact (below_size (by repeat (first | (with_reducible first | exact HB.out | apply below_alloc | apply pw_below_drewN | apply below_drew1 | refine below_set ?_ (IsS114.ge HI117.out) | refine below_set ?_ GE114.out) | exact HB.out))) : w.heap.size ≤ gb127)); have n6_ := Aside0.mk ((by rw [hg]; exact Nat.ne_of_lt (blk_lt (g := gb114) (o := .cells #[.int .i64 0, .int .i64 0, .int .i64 0] 29 (0, 0)) (by (with_reducible repeat (first | refine blk_drewN ?_ _ | refine blk_drew ?_ | refine blk_alloc ?_ _)); exact BK114.out)) : gb114 ≠ gb127)); have n7_ := Aside0.mk ((by rw [hg]; exact Nat.ne_of_gt (blk_lt (g := gb114) (o := .cells #[.int .i64 0, .int .i64 0, .int .i64 0] 29 (0, 0)) (by (with_reducible repeat (first | refine blk_drewN ?_ _ | refine blk_drew ?_ | refine blk_alloc ?_ _)); exact BK114.out)) : gb127 ≠ gb114)); have n8_ := Aside0.mk ((by rw [hg]; exact Nat.ne_of_lt (IsS114.lt (show IsS114 w _ g117 t125 t126 from by repeat (first | (with_reducible first | exact HI117.out | apply IsS114.alloc | apply IsS114.drewN | apply IsS114.drew | apply IsS114.set_0 | apply IsS114.set_1 | refine IsS114.far ?_ NB117_114.out _) | exact HI117.out))) : g117 ≠ gb127)); have n9_ := Aside0.mk ((by rw [hg]; exact Nat.ne_of_gt (IsS114.lt (show IsS114 w _ g117 t125 t126 from by repeat (first | (with_reducible first | exact HI117.out | apply IsS114.alloc | apply IsS114.drewN | apply IsS114.drew | apply IsS114.set_0 | apply IsS114.set_1 | refine IsS114.far ?_ NB117_114.out _) | exact HI117.out))) : gb127 ≠ g117)); clear BK114; clear HI117; clear HB; have BK114 := n0_; have HI117 := n1_; have HB := n2_; have BK127 := n3_; have GW127 := n4_; have GE127 := n5_; have NB114_127 := n6_; have NB127_114 := n7_; have NB117_127 := n8_; have NB127_117 := n9_; clear n0_ n1_ n2_ n3_ n4_ n5_ n6_ n7_ n8_ n9_; clear hb hbox hg; have hnb14 := NB127_114.out; have hnc14 := NB114_127.out; have hnb15 := NB127_117.out; have hnc15 := NB117_127.out; have hcz16_0 : w13.cell? ⟨gb127, 0, none⟩ = some (.int .i64 0) := (blk_cell BK127.out 0).trans rfl; have hcz16_1 : w13.cell? ⟨gb127, 1, none⟩ = some (.int .i64 0) := (blk_cell BK127.out 1).trans rfl; have hcz16_2 : w13.cell? ⟨gb127, 2, none⟩ = some (.int .i64 0) := (blk_cell BK127.out 2).trans rfl; have hfz16_0 := blk_frozen BK127.out 0; have hfz16_1 := blk_frozen BK127.out 1; have hfz16_2 := blk_frozen BK127.out 2) | ((with_reducible refine gate_callee (f := 44) rfl ?_); refine goesL_ (some 16) rfl rfl Tryd.func44 (by kernel_rfl) rfl #[.pointer (some ⟨g117, 0, none⟩)] rfl (by (try simp only [List.map_toArray, List.map_cons, List.map_nil]); first | done | rfl | (simp only [List.length_drop, List.length_take]; rfl)) ?_; (with_reducible refine (wire_Reader_Done.calls g117 t125 t126 true t129 t130 w _ ?side1 ?side2 A6.out).mono ?_); (case side1 => repeat (first | (with_reducible first | exact HI117.out | apply IsS114.alloc | apply IsS114.drewN | apply IsS114.drew | apply IsS114.set_0 | apply IsS114.set_1 | refine IsS114.far ?_ NB117_114.out _ | refine IsS114.far ?_ NB117_127.out _) | exact HI117.out)); (case side2 => repeat (first | (with_reducible first | exact HB.out | apply below_alloc | apply pw_below_drewN | apply below_drew1 | refine below_set ?_ (IsS114.ge HI117.out) | refine below_set ?_ GE114.out | refine below_set ?_ GE127.out) | exact HB.out)); rintro e w17 ⟨rfl, hi, hb, hk⟩; refine ⟨_, rfl, ?_⟩; have n0_ := Aside0.mk (KeepBut.blk hk (g' := gb114) (o := .cells #[.int .i64 0, .int .i64 0, .int .i64 0] 29 (0, 0)) (by (with_reducible repeat (first | refine blk_drewN ?_ _ | refine blk_drew ?_ | refine blk_alloc ?_ _)); refine blk_far ?_ NB114_127.out _; (with_reducible repeat (first | refine blk_drewN ?_ _ | refine blk_drew ?_ | refine blk_alloc ?_ _)); refine blk_far ?_ NB114_127.out _; (with_reducible repeat (first | refine blk_drewN ?_ _ | refine blk_drew ?_ | refine blk_alloc ?_ _)); refine blk_far ?_ NB114_127.out _; (with_reducible repeat (first | refine blk_drewN ?_ _ | refine blk_drew ?_ | refine blk_alloc ?_ _)); exact BK114.out) NB114_117.out (by simp)); have n1_ := Aside0.mk (KeepBut.blk hk (g' := gb127) (o := .cells #[.int .i64 t118, .int .i64 t121, .int .i64 t124] 29 (0, 0)) (by (with_reducible repeat (first | refine blk_drewN ?_ _ | refine blk_drew ?_ | refine blk_alloc ?_ _)); refine blk_put (cs := #[.int .i64 t118, .int .i64 t121, .int .i64 0]) ?_ 2 _ rfl; (with_reducible repeat (first | refine blk_drewN ?_ _ | refine blk_drew ?_ | refine blk_alloc ?_ _)); refine blk_put (cs := #[.int .i64 t118, .int .i64 0, .int .i64 0]) ?_ 1 _ rfl; (with_reducible repeat (first | refine blk_drewN ?_ _ | refine blk_drew ?_ | refine blk_alloc ?_ _)); refine blk_put (cs := #[.int .i64 0, .int .i64 0, .int .i64 0]) ?_ 0 _ rfl; (with_reducible repeat (first | refine blk_drewN ?_ _ | refine blk_drew ?_ | refine blk_alloc ?_ _)); exact BK127.out) NB127_117.out (by simp)); have n2_ := Aside0.mk (hb); have n3_ := Aside0.mk (hi); clear BK114; clear BK127; clear HB; clear HI117; have BK114 := n0_; have BK127 := n1_; have HB := n2_; have HI117 := n3_; clear n0_ n1_ n2_ n3_; (try clear hb); (try clear hb2); (try clear hk); (try clear hi); have hcz18_0 : w17.cell? ⟨gb127, 0, none⟩ = some (.int .i64 t118) := (blk_cell BK127.out 0).trans rfl; have hcz18_1 : w17.cell? ⟨gb127, 1, none⟩ = some (.int .i64 t121) := (blk_cell BK127.out 1).trans rfl; have hcz18_2 : w17.cell? ⟨gb127, 2, none⟩ = some (.int .i64 t124) := (blk_cell BK127.out 2).trans rfl; have hfz18_0 := blk_frozen BK127.out 0; have hfz18_1 := blk_frozen BK127.out 1; have hfz18_2 := blk_frozen BK127.out 2; have hnb19 := NB114_117.out; have hnc19 := NB117_114.out; have hcz20_0 : w17.cell? ⟨gb114, 0, none⟩ = some (.int .i64 0) := (blk_cell BK114.out 0).trans rfl; have hcz20_1 : w17.cell? ⟨gb114, 1, none⟩ = some (.int .i64 0) := (blk_cell BK114.out 1).trans rfl; have hcz20_2 : w17.cell? ⟨gb114, 2, none⟩ = some (.int .i64 0) := (blk_cell BK114.out 2).trans rfl; have hfz20_0 := blk_frozen BK114.out 0; have hfz20_1 := blk_frozen BK114.out 1; have hfz20_2 := blk_frozen BK114.out 2))
    refine bodyPost_ret (results_ct rfl _ _ gb114 29 #[.int .i64 t118, .int .i64 t121, .int .i64 t124] (0, 0) _ rfl (by (with_reducible repeat (first | refine blk_drewN ?_ _ | refine blk_drew ?_ | refine blk_alloc ?_ _)); refine blk_put (cs := #[.int .i64 t118, .int .i64 t121, .int .i64 0]) ?_ 2 _ rfl; (with_reducible repeat (first | refine blk_drewN ?_ _ | refine blk_drew ?_ | refine blk_alloc ?_ _)); refine blk_put (cs := #[.int .i64 t118, .int .i64 0, .int .i64 0]) ?_ 1 _ rfl; (with_reducible repeat (first | refine blk_drewN ?_ _ | refine blk_drew ?_ | refine blk_alloc ?_ _)); refine blk_put (cs := #[.int .i64 0, .int .i64 0, .int .i64 0]) ?_ 0 _ rfl; (with_reducible repeat (first | refine blk_drewN ?_ _ | refine blk_drew ?_ | refine blk_alloc ?_ _)); exact BK114.out) Tryd.underlying29 rfl (by kernel_rfl)) rfl ?_
    exact ⟨by first | rfl | (simp [errW_none, errW_some] <;> rfl) | (simp [*, errW_none, errW_some] <;> rfl), by repeat (first | (with_reducible first | exact HB.out | apply below_alloc | apply pw_below_drewN | apply below_drew1 | refine below_set ?_ (IsS114.ge HI117.out) | refine below_set ?_ GE114.out | refine below_set ?_ GE127.out) | exact HB.out)⟩
  · replace c7 := Bool.eq_false_iff.mpr c7
    subst c7
    have H1 : (some (0, 0, 0, false)) = some (r1, r2, r3, r4) := by rw [if_neg (show ¬ (false = true) by decide)] at H; exact H
    clear H
    have H := H1
    clear H1
    simp only [Option.some.injEq, Prod.mk.injEq] at H
    obtain ⟨rfl, rfl, rfl, rfl⟩ := H
    go_enter Tryd.func11, Tryd.ntmps11
    go_wp2_with (first | ((with_reducible refine gate_dst (N := 2) rfl ?_); refine box_event ?hg (N := 2) ?hd (cs := #[.int .i64 0, .int .i64 0, .int .i64 0]) (t := 29) ?hr ?_; (case hd => rfl); (case hg => rfl); (case hr => first | (go_simp; done) | (go_simp; rfl)); intro gb114 hg w21 hbox hb; have n0_ := Aside0.mk (below_step (by repeat (first | (with_reducible first | exact HB.out | apply below_alloc | apply pw_below_drewN | apply below_drew1) | exact HB.out)) hb); have n1_ := Aside0.mk (hbox); have n2_ := Aside0.mk ((by rw [hg]; exact (below_size (by repeat (first | (with_reducible first | exact HB.out | apply below_alloc | apply pw_below_drewN | apply below_drew1) | exact HB.out))) : w.heap.size ≤ gb114)); have n3_ := Aside0.mk ((by rw [hg]; exact (below_size (by repeat (first | (with_reducible first | exact HB.out | apply below_alloc | apply pw_below_drewN | apply below_drew1) | exact HB.out))) : w.heap.size ≤ gb114)); clear HB; have HB := n0_; have BK114 := n1_; have GW114 := n2_; have GE114 := n3_; clear n0_ n1_ n2_ n3_; clear hb hbox hg) | ((with_reducible refine gate_callee (f := 42) rfl ?_); refine goesL_ (some 7) rfl rfl Tryd.func42 (by kernel_rfl) rfl #[.string a0] rfl (by (try simp only [List.map_toArray, List.map_cons, List.map_nil]); first | done | rfl | (simp only [List.length_drop, List.length_take]; rfl)) ?_; (with_reducible refine (wire_Open.calls a0 t115 t116 _ _ (Below.refl _ _) A2.out).mono ?_); rintro e w22 ⟨g117, rfl, hi, hb, hb2⟩; refine ⟨_, rfl, ?_⟩; have n0_ := Aside0.mk (blk_below (g := gb114) (o := .cells #[.int .i64 0, .int .i64 0, .int .i64 0] 29 (0, 0)) (by (with_reducible repeat (first | refine blk_drewN ?_ _ | refine blk_drew ?_ | refine blk_alloc ?_ _)); exact BK114.out) hb2); have n1_ := Aside0.mk (below_step (by repeat (first | (with_reducible first | exact HB.out | apply below_alloc | apply pw_below_drewN | apply below_drew1 | refine below_set ?_ GE114.out) | exact HB.out)) hb); have n2_ := Aside0.mk ((show IsS114 w _ g117 t115 t116 from ⟨hi.1, Nat.le_trans (below_size (by repeat (first | (with_reducible first | exact HB.out | apply below_alloc | apply pw_below_drewN | apply below_drew1 | refine below_set ?_ GE114.out) | exact HB.out))) hi.2⟩)); have n3_ := Aside0.mk (IsS114.ne_blk hi (blk_below (g := gb114) (o := .cells #[.int .i64 0, .int .i64 0, .int .i64 0] 29 (0, 0)) (by (with_reducible repeat (first | refine blk_drewN ?_ _ | refine blk_drew ?_ | refine blk_alloc ?_ _)); exact BK114.out) hb2) (by decide)); have n4_ := Aside0.mk (Ne.symm (IsS114.ne_blk hi (blk_below (g := gb114) (o := .cells #[.int .i64 0, .int .i64 0, .int .i64 0] 29 (0, 0)) (by (with_reducible repeat (first | refine blk_drewN ?_ _ | refine blk_drew ?_ | refine blk_alloc ?_ _)); exact BK114.out) hb2) (by decide))); clear BK114; clear HB; have BK114 := n0_; have HB := n1_; have HI117 := n2_; have NB117_114 := n3_; have NB114_117 := n4_; clear n0_ n1_ n2_ n3_ n4_; (try clear hb); (try clear hb2); (try clear hk); (try clear hi)) | ((with_reducible refine gate_callee (f := 43) rfl ?_); refine goesL_ (some 9) rfl rfl Tryd.func43 (by kernel_rfl) rfl #[.pointer (some ⟨g117, 0, none⟩)] rfl (by (try simp only [List.map_toArray, List.map_cons, List.map_nil]); first | done | rfl | (simp only [List.length_drop, List.length_take]; rfl)) ?_; (with_reducible refine (wire_Reader_Int.calls g117 t115 t116 t118 t119 t120 w _ ?side1 ?side2 A3.out HT.out).mono ?_); (case side1 => repeat (first | (with_reducible first | exact HI117.out | apply IsS114.alloc | apply IsS114.drewN | apply IsS114.drew | apply IsS114.set_0 | apply IsS114.set_1 | refine IsS114.far ?_ NB117_114.out _) | exact HI117.out)); (case side2 => repeat (first | (with_reducible first | exact HB.out | apply below_alloc | apply pw_below_drewN | apply below_drew1 | refine below_set ?_ (IsS114.ge HI117.out) | refine below_set ?_ GE114.out) | exact HB.out)); rintro e w23 ⟨rfl, hi, hb, hk⟩; refine ⟨_, rfl, ?_⟩; have n0_ := Aside0.mk (KeepBut.blk hk (g' := gb114) (o := .cells #[.int .i64 0, .int .i64 0, .int .i64 0] 29 (0, 0)) (by (with_reducible repeat (first | refine blk_drewN ?_ _ | refine blk_drew ?_ | refine blk_alloc ?_ _)); exact BK114.out) NB114_117.out (by simp)); have n1_ := Aside0.mk (hb); have n2_ := Aside0.mk (hi); clear BK114; clear HB; clear HI117; have BK114 := n0_; have HB := n1_; have HI117 := n2_; clear n0_ n1_ n2_; (try clear hb); (try clear hb2); (try clear hk); (try clear hi)) | ((with_reducible refine gate_callee (f := 43) rfl ?_); refine goesL_ (some 11) rfl rfl Tryd.func43 (by kernel_rfl) rfl #[.pointer (some ⟨g117, 0, none⟩)] rfl (by (try simp only [List.map_toArray, List.map_cons, List.map_nil]); first | done | rfl | (simp only [List.length_drop, List.length_take]; rfl)) ?_; (with_reducible refine (wire_Reader_Int.calls g117 t119 t120 t121 t122 t123 w _ ?side1 ?side2 A4.out HT.out).mono ?_); (case side1 => repeat (first | (with_reducible first | exact HI117.out | apply IsS114.alloc | apply IsS114.drewN | apply IsS114.drew | apply IsS114.set_0 | apply IsS114.set_1 | refine IsS114.far ?_ NB117_114.out _) | exact HI117.out)); (case side2 => repeat (first | (with_reducible first | exact HB.out | apply below_alloc | apply pw_below_drewN | apply below_drew1 | refine below_set ?_ (IsS114.ge HI117.out) | refine below_set ?_ GE114.out) | exact HB.out)); rintro e w24 ⟨rfl, hi, hb, hk⟩; refine ⟨_, rfl, ?_⟩; have n0_ := Aside0.mk (KeepBut.blk hk (g' := gb114) (o := .cells #[.int .i64 0, .int .i64 0, .int .i64 0] 29 (0, 0)) (by (with_reducible repeat (first | refine blk_drewN ?_ _ | refine blk_drew ?_ | refine blk_alloc ?_ _)); exact BK114.out) NB114_117.out (by simp)); have n1_ := Aside0.mk (hb); have n2_ := Aside0.mk (hi); clear BK114; clear HB; clear HI117; have BK114 := n0_; have HB := n1_; have HI117 := n2_; clear n0_ n1_ n2_; (try clear hb); (try clear hb2); (try clear hk); (try clear hi)) | ((with_reducible refine gate_callee (f := 43) rfl ?_); refine goesL_ (some 13) rfl rfl Tryd.func43 (by kernel_rfl) rfl #[.pointer (some ⟨g117, 0, none⟩)] rfl (by (try simp only [List.map_toArray, List.map_cons, List.map_nil]); first | done | rfl | (simp only [List.length_drop, List.length_take]; rfl)) ?_; (with_reducible refine (wire_Reader_Int.calls g117 t122 t123 t124 t125 t126 w _ ?side1 ?side2 A5.out HT.out).mono ?_); (case side1 => repeat (first | (with_reducible first | exact HI117.out | apply IsS114.alloc | apply IsS114.drewN | apply IsS114.drew | apply IsS114.set_0 | apply IsS114.set_1 | refine IsS114.far ?_ NB117_114.out _) | exact HI117.out)); (case side2 => repeat (first | (with_reducible first | exact HB.out | apply below_alloc | apply pw_below_drewN | apply below_drew1 | refine below_set ?_ (IsS114.ge HI117.out) | refine below_set ?_ GE114.out) | exact HB.out)); rintro e w25 ⟨rfl, hi, hb, hk⟩; refine ⟨_, rfl, ?_⟩; have n0_ := Aside0.mk (KeepBut.blk hk (g' := gb114) (o := .cells #[.int .i64 0, .int .i64 0, .int .i64 0] 29 (0, 0)) (by (with_reducible repeat (first | refine blk_drewN ?_ _ | refine blk_drew ?_ | refine blk_alloc ?_ _)); exact BK114.out) NB114_117.out (by simp)); have n1_ := Aside0.mk (hb); have n2_ := Aside0.mk (hi); clear BK114; clear HB; clear HI117; have BK114 := n0_; have HB := n1_; have HI117 := n2_; clear n0_ n1_ n2_; (try clear hb); (try clear hb2); (try clear hk); (try clear hi)) | ((with_reducible refine gate_dst (N := 5) rfl ?_); refine box_event ?hg (N := 5) ?hd (cs := #[.int .i64 0, .int .i64 0, .int .i64 0]) (t := 29) ?hr ?_; (case hd => rfl); (case hg => rfl); (case hr => first | (go_simp; done) | (go_simp; rfl)); intro gb127 hg w26 hbox hb; have n0_ := Aside0.mk (blk_below (g := gb114) (o := .cells #[.int .i64 0, .int .i64 0, .int .i64 0] 29 (0, 0)) (by (with_reducible repeat (first | refine blk_drewN ?_ _ | refine blk_drew ?_ | refine blk_alloc ?_ _)); exact BK114.out) hb); have n1_ := Aside0.mk (IsS114.below (by repeat (first | (with_reducible first | exact HI117.out | apply IsS114.alloc | apply IsS114.drewN | apply IsS114.drew | apply IsS114.set_0 | apply IsS114.set_1 | refine IsS114.far ?_ NB117_114.out _) | exact HI117.out)) hb); have n2_ := Aside0.mk (below_step (by repeat (first | (with_reducible first | exact HB.out | apply below_alloc | apply pw_below_drewN | apply below_drew1 | refine below_set ?_ (IsS114.ge HI117.out) | refine below_set ?_ GE114.out) | exact HB.out)) hb); have n3_ := Aside0.mk (hbox); have n4_ := Aside0.mk ((by rw [hg]; exact (below_size (by repeat (first | (with_reducible first | exact HB.out | apply below_alloc | apply pw_below_drewN | apply below_drew1 | refine below_set ?_ (IsS114.ge HI117.out) | refine below_set ?_ GE114.out) | exact HB.out))) : w.heap.size ≤ gb127)); have n5_ := Aside0.mk ((by rw [hg]; exact (below_size (by repeat (first | (with_reducible first | exact HB.out | apply below_alloc | apply pw_below_drewN | apply below_drew1 | refine below_set ?_ (IsS114.ge HI117.out) | refine below_set ?_ GE114.out) | exact HB.out))) : w.heap.size ≤ gb127)); have n6_ := Aside0.mk ((by rw [hg]; exact Nat.ne_of_lt (blk_lt (g := gb114) (o := .cells #[.int .i64 0, .int .i64 0, .int .i64 0] 29 (0, 0)) (by (with_reducible repeat (first | refine blk_drewN ?_ _ | refine blk_drew ?_ | refine blk_alloc ?_ _)); exact BK114.out)) : gb114 ≠ gb127)); have n7_ := Aside0.mk ((by rw [hg]; exact Nat.ne_of_gt (blk_lt (g := gb114) (o := .cells #[.int .i64 0, .int .i64 0, .int .i64 0] 29 (0, 0)) (by (with_reducible repeat (first | refine blk_drewN ?_ _ | refine blk_drew ?_ | refine blk_alloc ?_ _)); exact BK114.out)) : gb127 ≠ gb114)); have n8_ := Aside0.mk ((by rw [hg]; exact Nat.ne_of_lt (IsS114.lt (show IsS114 w _ g117 t125 t126 from by repeat (first | (with_reducible first | exact HI117.out | apply IsS114.alloc | apply IsS114.drewN | apply IsS114.drew | apply IsS114.set_0 | apply IsS114.set_1 | refine IsS114.far ?_ NB117_114.out _) | exact HI117.out))) : g117 ≠ gb127)); have n9_ := Aside0.mk ((by rw [hg]; exact Nat.ne_of_gt (IsS114.lt (show IsS114 w _ g117 t125 t126 from by repeat (first | (with_reducible first | exact HI117.out | apply IsS114.alloc | apply IsS114.drewN | apply IsS114.drew | apply IsS114.set_0 | apply IsS114.set_1 | refine IsS114.far ?_ NB117_114.out _) | exact HI117.out))) : gb127 ≠ g117)); clear BK114; clear HI117; clear HB; have BK114 := n0_; have HI117 := n1_; have HB := n2_; have BK127 := n3_; have GW127 := n4_; have GE127 := n5_; have NB114_127 := n6_; have NB127_114 := n7_; have NB117_127 := n8_; have NB127_117 := n9_; clear n0_ n1_ n2_ n3_ n4_ n5_ n6_ n7_ n8_ n9_; clear hb hbox hg; have hnb27 := NB127_114.out; have hnc27 := NB114_127.out; have hnb28 := NB127_117.out; have hnc28 := NB117_127.out; have hcz29_0 : w26.cell? ⟨gb127, 0, none⟩ = some (.int .i64 0) := (blk_cell BK127.out 0).trans rfl; have hcz29_1 : w26.cell? ⟨gb127, 1, none⟩ = some (.int .i64 0) := (blk_cell BK127.out 1).trans rfl; have hcz29_2 : w26.cell? ⟨gb127, 2, none⟩ = some (.int .i64 0) := (blk_cell BK127.out 2).trans rfl; have hfz29_0 := blk_frozen BK127.out 0; have hfz29_1 := blk_frozen BK127.out 1; have hfz29_2 := blk_frozen BK127.out 2) | ((with_reducible refine gate_callee (f := 44) rfl ?_); refine goesL_ (some 16) rfl rfl Tryd.func44 (by kernel_rfl) rfl #[.pointer (some ⟨g117, 0, none⟩)] rfl (by (try simp only [List.map_toArray, List.map_cons, List.map_nil]); first | done | rfl | (simp only [List.length_drop, List.length_take]; rfl)) ?_; (with_reducible refine (wire_Reader_Done.calls g117 t125 t126 false t129 t130 w _ ?side1 ?side2 A6.out).mono ?_); (case side1 => repeat (first | (with_reducible first | exact HI117.out | apply IsS114.alloc | apply IsS114.drewN | apply IsS114.drew | apply IsS114.set_0 | apply IsS114.set_1 | refine IsS114.far ?_ NB117_114.out _ | refine IsS114.far ?_ NB117_127.out _) | exact HI117.out)); (case side2 => repeat (first | (with_reducible first | exact HB.out | apply below_alloc | apply pw_below_drewN | apply below_drew1 | refine below_set ?_ (IsS114.ge HI117.out) | refine below_set ?_ GE114.out | refine below_set ?_ GE127.out) | exact HB.out)); rintro e w30 ⟨rfl, hi, hb, hk⟩; refine ⟨_, rfl, ?_⟩; have n0_ := Aside0.mk (KeepBut.blk hk (g' := gb114) (o := .cells #[.int .i64 0, .int .i64 0, .int .i64 0] 29 (0, 0)) (by (with_reducible repeat (first | refine blk_drewN ?_ _ | refine blk_drew ?_ | refine blk_alloc ?_ _)); refine blk_far ?_ NB114_127.out _; (with_reducible repeat (first | refine blk_drewN ?_ _ | refine blk_drew ?_ | refine blk_alloc ?_ _)); refine blk_far ?_ NB114_127.out _; (with_reducible repeat (first | refine blk_drewN ?_ _ | refine blk_drew ?_ | refine blk_alloc ?_ _)); refine blk_far ?_ NB114_127.out _; (with_reducible repeat (first | refine blk_drewN ?_ _ | refine blk_drew ?_ | refine blk_alloc ?_ _)); exact BK114.out) NB114_117.out (by simp)); have n1_ := Aside0.mk (KeepBut.blk hk (g' := gb127) (o := .cells #[.int .i64 t118, .int .i64 t121, .int .i64 t124] 29 (0, 0)) (by (with_reducible repeat (first | refine blk_drewN ?_ _ | refine blk_drew ?_ | refine blk_alloc ?_ _)); refine blk_put (cs := #[.int .i64 t118, .int .i64 t121, .int .i64 0]) ?_ 2 _ rfl; (with_reducible repeat (first | refine blk_drewN ?_ _ | refine blk_drew ?_ | refine blk_alloc ?_ _)); refine blk_put (cs := #[.int .i64 t118, .int .i64 0, .int .i64 0]) ?_ 1 _ rfl; (with_reducible repeat (first | refine blk_drewN ?_ _ | refine blk_drew ?_ | refine blk_alloc ?_ _)); refine blk_put (cs := #[.int .i64 0, .int .i64 0, .int .i64 0]) ?_ 0 _ rfl; (with_reducible repeat (first | refine blk_drewN ?_ _ | refine blk_drew ?_ | refine blk_alloc ?_ _)); exact BK127.out) NB127_117.out (by simp)); have n2_ := Aside0.mk (hb); have n3_ := Aside0.mk (hi); clear BK114; clear BK127; clear HB; clear HI117; have BK114 := n0_; have BK127 := n1_; have HB := n2_; have HI117 := n3_; clear n0_ n1_ n2_ n3_; (try clear hb); (try clear hb2); (try clear hk); (try clear hi); have hnb31 := NB114_117.out; have hnc31 := NB117_114.out; have hcz32_0 : w30.cell? ⟨gb114, 0, none⟩ = some (.int .i64 0) := (blk_cell BK114.out 0).trans rfl; have hcz32_1 : w30.cell? ⟨gb114, 1, none⟩ = some (.int .i64 0) := (blk_cell BK114.out 1).trans rfl; have hcz32_2 : w30.cell? ⟨gb114, 2, none⟩ = some (.int .i64 0) := (blk_cell BK114.out 2).trans rfl; have hfz32_0 := blk_frozen BK114.out 0; have hfz32_1 := blk_frozen BK114.out 1; have hfz32_2 := blk_frozen BK114.out 2))
    refine bodyPost_ret (results_ct rfl _ _ gb114 29 #[.int .i64 0, .int .i64 0, .int .i64 0] (0, 0) _ rfl (by (with_reducible repeat (first | refine blk_drewN ?_ _ | refine blk_drew ?_ | refine blk_alloc ?_ _)); refine blk_put (cs := #[.int .i64 0, .int .i64 0, .int .i64 0]) ?_ 2 _ rfl; (with_reducible repeat (first | refine blk_drewN ?_ _ | refine blk_drew ?_ | refine blk_alloc ?_ _)); refine blk_put (cs := #[.int .i64 0, .int .i64 0, .int .i64 0]) ?_ 1 _ rfl; (with_reducible repeat (first | refine blk_drewN ?_ _ | refine blk_drew ?_ | refine blk_alloc ?_ _)); refine blk_put (cs := #[.int .i64 0, .int .i64 0, .int .i64 0]) ?_ 0 _ rfl; (with_reducible repeat (first | refine blk_drewN ?_ _ | refine blk_drew ?_ | refine blk_alloc ?_ _)); exact BK114.out) Tryd.underlying29 rfl (by kernel_rfl)) rfl ?_
    exact ⟨by first | rfl | (simp [errW_none, errW_some] <;> rfl) | (simp [*, errW_none, errW_some] <;> rfl), by repeat (first | (with_reducible first | exact HB.out | apply below_alloc | apply pw_below_drewN | apply below_drew1 | refine below_set ?_ (IsS114.ge HI117.out) | refine below_set ?_ GE114.out | refine below_set ?_ GE127.out) | exact HB.out)⟩

/-! ### wire_Int: function 45 -/
def wire_Int.f (a0 : Int) : Option (ByteArray) := (strconv_Itoa.f a0).bind fun t131 => (if t131.size + 1 ≤ 9223372036854775807 then (some (t131 ++ (⟨#[59]⟩ : ByteArray))) else (none))
set_option maxHeartbeats 8000000 in
set_option maxRecDepth 100000 in
theorem wire_Int.calls (a0 : Int) (r : ByteArray) (w : World) (h : wire_Int.f a0 = some r) (hT : Tabs w) :
    Calls Tryd.prog 45 #[.int .i64 a0] w fun e w' => e = .returned (.string r) ∧ Below w.heap.size w w' := by
  have HT := Aside0.mk hT
  clear hT
  have HB := Aside0.mk (Below.refl w.heap.size w)
  have H : ((strconv_Itoa.f a0).bind fun t131 => (if t131.size + 1 ≤ 9223372036854775807 then (some (t131 ++ (⟨#[59]⟩ : ByteArray))) else (none))) = some r := h
  clear h
  replace H := Option.bind_eq_some_iff.mp H
  obtain ⟨t131, A20, H⟩ := H
  replace H : (if t131.size + 1 ≤ 9223372036854775807 then (some (t131 ++ (⟨#[59]⟩ : ByteArray))) else (none)) = some r := H
  have A2 := Aside0.mk A20
  clear A20
  by_cases c3 : t131.size + 1 ≤ 9223372036854775807
  · rw [if_pos c3] at H
    have c3b0 := eq_true c3
    have c3b1 : decide (t131.size + 1 ≤ 9223372036854775807) = true := decide_eq_true c3
    try have c3b2 : (9223372036854775807 < t131.size + 1) = False := eq_false (Nat.not_lt.2 c3)
    obtain rfl := Option.some.inj H
    go_enter Tryd.func45, Tryd.ntmps45
    go_wp2_with (first | ((with_reducible refine gate_callee (f := 72) rfl ?_); refine goesL_ (some 4) rfl rfl Tryd.func72 (by kernel_rfl) rfl #[.int .i64 a0] rfl (by (try simp only [List.map_toArray, List.map_cons, List.map_nil]); first | done | rfl | (simp only [List.length_drop, List.length_take]; rfl)) ?_; (with_reducible refine (strconv_Itoa.calls a0 t131 _ A2.out (HT.out.below (by repeat (first | (with_reducible first | exact HB.out | apply below_alloc | apply pw_below_drewN | apply below_drew1) | exact HB.out)))).mono ?_); rintro e w4 ⟨rfl, hb⟩; refine ⟨_, rfl, ?_⟩; have n0_ := Aside0.mk (below_step (by repeat (first | (with_reducible first | exact HB.out | apply below_alloc | apply pw_below_drewN | apply below_drew1) | exact HB.out)) hb); clear HB; have HB := n0_; clear n0_; (try clear hb); (try clear hb2); (try clear hk); (try clear hi)))
    go_ret
    exact ⟨by first | rfl | (simp [errW_none, errW_some] <;> rfl) | (simp [*, errW_none, errW_some] <;> rfl), by repeat (first | (with_reducible first | exact HB.out | apply below_alloc | apply pw_below_drewN | apply below_drew1) | exact HB.out)⟩
  · rw [if_neg c3] at H
    exact absurd H (by simp)

end Go.Proofs.YtdgbfaflepiagaaDoor.PSe
