/- Some desks in memory, and what lies beside them; a call of the law's 'do'. -/
import Derived.Test.YtdgbfaflepiagaaDoorSeamGSe
import Derived.Test.YtdgbfaflepiagaaDoorSeamC
namespace Go.Proofs.YtdgbfaflepiagaaDoor.Seam
open Go.RowKit Go.Proofs.YtdgbfaflepiagaaDoorW.PrintWords Go.Proofs.YtdgbfaflepiagaaDoorW.PrintMore Go.Proofs.YtdgbfaflepiagaaDoor.PSe Go.Proofs.YtdgbfaflepiagaaDoor.WireMath Go.Proofs.YtdgbfaflepiagaaDoor.WireB
set_option linter.unusedVariables false
set_option linter.unusedSimpArgs false
structure Dsk where
  g : Nat
  me : Int
  v : Value
  l : List Rob
def Sep (v v' : Value) : Prop := (v.ownBlock = none ∨ v.ownBlock ≠ v'.ownBlock) ∧ (v'.ownBlock = none ∨ v'.ownBlock ≠ v.ownBlock)
/-- The desks, other blocks, and that what lay there before is as it was. -/
structure M (w u : World) (ds : List Dsk) (ps : List (Nat × Array Value × TypeId)) : Prop where
  bel : Below w.heap.size w u
  dsk : ∀ d ∈ ds, Dk u w.heap.size d.g d.me d.v d.l
  sep : (ds.map (·.v)).Pairwise Sep
  blks : ∀ p ∈ ps, u.heap[p.1]? = some (.cells p.2.1 p.2.2 (0, 0)) ∧ 83 ≠ p.2.2
section
variable {w u u1 : World} {ds xs ys : List Dsk} {ps : List (Nat × Array Value × TypeId)} {d : Dsk}
theorem M.on (h : M w u ds ps) (hb : Below u.heap.size u u1) : M w u1 ds ps :=
  ⟨below_step h.bel hb, fun d hd => (h.dsk d hd).below hb, h.sep, fun p hp => ⟨blk_below (h.blks p hp).1 hb, (h.blks p hp).2⟩⟩
theorem M.new (h : M w u ds ps) (cs : Array Value) (t : TypeId) (ht : 83 ≠ t) : M w (u.alloc (.cells cs t (0, 0))) ds ((u.heap.size, cs, t) :: ps) := by
  have h1 := h.on (below_alloc (Below.refl u.heap.size u) (.cells cs t (0, 0)))
  refine ⟨h1.bel, h1.dsk, h1.sep, fun p hp => ?_⟩
  rcases List.mem_cons.1 hp with rfl | hp
  · exact ⟨blk_new _ _, ht⟩
  · exact h1.blks p hp
theorem M.upd (h : M w u (xs ++ d :: ys) ps) {l : List Rob} (hd : Dk u1 w.heap.size d.g d.me d.v l) (hg : u.grownBy u1 d.v.ownBlock) : M w u1 (xs ++ ⟨d.g, d.me, d.v, l⟩ :: ys) ps := by
  have h0 := h.dsk d (by simp)
  have ho : ∀ e ∈ xs ++ ys, Sep e.v d.v → Dk u1 w.heap.size e.g e.me e.v e.l := fun e he hs => by
    have h1 := h.dsk e (by rcases List.mem_append.1 he with h2 | h2 <;> simp [h2])
    exact h1.grown hg (own_ne h0.own h1.blk (by decide)) hs.1
  have hs := h.sep
  rw [List.map_append, List.map_cons, List.pairwise_append] at hs
  obtain ⟨hs1, hs2, hs3⟩ := hs
  rw [List.pairwise_cons] at hs2
  refine ⟨h.bel.grown hg h.bel.size (own_base h0.own), fun e he => ?_, ?_, fun p hp => ⟨blk_grown (h.blks p hp).1 hg (own_ne h0.own (h.blks p hp).1 (h.blks p hp).2), (h.blks p hp).2⟩⟩
  · rcases List.mem_append.1 he with h1 | h1
    · exact ho e (by simp [h1]) (hs3 e.v (List.mem_map_of_mem h1) d.v (by simp))
    · rcases List.mem_cons.1 h1 with rfl | h1
      · exact hd
      · have := hs2.1 e.v (List.mem_map_of_mem h1)
        exact ho e (by simp [h1]) ⟨this.2, this.1⟩
  · have := h.sep
    rw [List.map_append, List.map_cons] at this ⊢
    exact this
theorem sep_new {b v' : Nat} {v x : Value} {l l' : List Rob} (h : u.ownsRow b 83 3 v l.length (flat l)) (h' : u1.ownsRow u.heap.size 83 3 x l'.length (flat l')) : Sep x v := by
  have key : ∀ k k', v.ownBlock = some k → x.ownBlock = some k' → k ≠ k' := fun k k' e e' he => by
    have h1 := own_lt h k e
    have h2 := own_base h' k' e'
    omega
  constructor
  · cases hx : x.ownBlock with
    | none => exact .inl rfl
    | some k' =>
      refine .inr fun e => ?_
      exact key k' k' e.symm hx rfl
  · cases hv : v.ownBlock with
    | none => exact .inl rfl
    | some k =>
      refine .inr fun e => ?_
      exact key k k hv e.symm rfl
theorem own_lower {w : World} {b b' e s n : Nat} {v : Value} {xs : List Value} (h : w.ownsRow b e s v n xs) (hb : b' ≤ b) : w.ownsRow b' e s v n xs := by
  refine ⟨h.1, ?_⟩
  rcases h.2 with h2 | ⟨g, cap, cur, he, h3, h4⟩
  · exact .inl h2
  · exact .inr ⟨g, cap, cur, he, Nat.le_trans hb h3, h4⟩
theorem M.add (h : M w u ds ps) {g : Nat} {me : Int} {v : Value} {l : List Rob} (hd : Dk u1 u.heap.size g me v l) (hb : Below u.heap.size u u1) : M w u1 (⟨g, me, v, l⟩ :: ds) ps := by
  have h1 := h.on hb
  refine ⟨h1.bel, fun e he => ?_, ?_, h1.blks⟩
  · rcases List.mem_cons.1 he with rfl | he
    · exact ⟨hd.blk, own_lower hd.own h.bel.size, Nat.le_trans h.bel.size hd.base⟩
    · exact h1.dsk e he
  · rw [List.map_cons, List.pairwise_cons]
    refine ⟨fun x hx => ?_, h1.sep⟩
    obtain ⟨e, he, rfl⟩ := List.mem_map.1 hx
    exact sep_new (v' := 0) (h.dsk e he).own hd.own
theorem M.start (w : World) : M w w [] [] := ⟨Below.refl _ _, fun _ h => by simp at h, by simp, fun _ h => by simp at h⟩
end
def low (dv : Int) : Int := bits BinOp.and IntKind.i64 dv 7
/-- What 'do' does to a desk. -/
def doOp (l : List Rob) (t : Int) (p : P3) (take : Bool) : List Rob := if t = 0 ∨ t = 1 then (offer l p.2.1).1 else if t = 2 then l else if t = 5 ∨ t = 6 ∨ t = 7 then (hear l p take).1 else l
set_option maxHeartbeats 4000000 in
set_option maxRecDepth 100000 in
theorem do_calls (b g : Nat) (me : Int) (v : Value) (l : List Rob) (dv kd rb no : Int) (take : Bool) (w : World) (hD : Dk w b g me v l) (hl : l.length ≤ 1000000) :
    Calls Tryd.prog 13 #[.pointer (some ⟨g, 0, none⟩), .agg #[.int .i64 dv, .int .i64 kd, .int .i64 rb, .int .i64 no, .bool take]] w fun e w' => e = .returned (.tuple #[]) ∧ Dk w' b g me v (doOp l (low dv) (kd, rb, no) take) ∧ w.grownBy w' v.ownBlock := by
  have HD := Aside0.mk (hD.alloc (.cells #[.int .i64 dv, .int .i64 kd, .int .i64 rb, .int .i64 no, .bool take] 34 (0, 0)))
  have HG := Aside0.mk (World.grownBy_alloc w (.cells #[.int .i64 dv, .int .i64 kd, .int .i64 rb, .int .i64 no, .bool take] 34 (0, 0)) v.ownBlock)
  clear hD
  have HF : Aside0 (doOp l (low dv) (kd, rb, no) take = if bits BinOp.and IntKind.i64 dv 7 = 0 ∨ bits BinOp.and IntKind.i64 dv 7 = 1 then (offer l rb).1 else if bits BinOp.and IntKind.i64 dv 7 = 2 then l else if bits BinOp.and IntKind.i64 dv 7 = 5 ∨ bits BinOp.and IntKind.i64 dv 7 = 6 ∨ bits BinOp.and IntKind.i64 dv 7 = 7 then (hear l (kd, rb, no) take).1 else l) := ⟨rfl⟩
  have hcs : ((bits BinOp.and IntKind.i64 dv 7 == 0) = true ∨ ((bits BinOp.and IntKind.i64 dv 7 == 0) = false ∧ (bits BinOp.and IntKind.i64 dv 7 == 1) = true)) ∨ ((bits BinOp.and IntKind.i64 dv 7 == 0) = false ∧ (bits BinOp.and IntKind.i64 dv 7 == 1) = false ∧ ((bits BinOp.and IntKind.i64 dv 7 == 2) = true ∨ (bits BinOp.and IntKind.i64 dv 7 == 2) = false ∧
      (((bits BinOp.and IntKind.i64 dv 7 == 5) = true ∨ ((bits BinOp.and IntKind.i64 dv 7 == 5) = false ∧ (bits BinOp.and IntKind.i64 dv 7 == 6) = true) ∨ ((bits BinOp.and IntKind.i64 dv 7 == 5) = false ∧ (bits BinOp.and IntKind.i64 dv 7 == 6) = false ∧ (bits BinOp.and IntKind.i64 dv 7 == 7) = true)) ∨ ((bits BinOp.and IntKind.i64 dv 7 == 5) = false ∧ (bits BinOp.and IntKind.i64 dv 7 == 6) = false ∧ (bits BinOp.and IntKind.i64 dv 7 == 7) = false)))) := by
    generalize bits BinOp.and IntKind.i64 dv 7 = t
    simp only [beq_iff_eq, beq_eq_false_iff_ne]
    omega
  rcases hcs with (b0 | ⟨b0, b1⟩) | ⟨b0, b1, b2 | ⟨b2, (b5 | ⟨b5, b6⟩ | ⟨b5, b6, b7⟩) | ⟨b5, b6, b7⟩⟩⟩
  · rw [if_pos (.inl (beq_iff_eq.1 b0))] at HF
    go_enter Tryd.func13, Tryd.ntmps13
    go_wp2_with fail
    (with_reducible refine (offer_calls b g me v l rb _ HD.out hl).mono ?_)
    rintro e w1 ⟨rfl, hd, hg⟩
    have HE := Aside0.mk (And.intro hd (grown_trans HG.out hg))
    clear hd hg HD HG
    go_wp2
    go_end0
    exact ⟨rfl, by rw [HF.out]; exact HE.out.1, HE.out.2⟩
  · rw [if_pos (.inr (beq_iff_eq.1 b1))] at HF
    go_enter Tryd.func13, Tryd.ntmps13
    go_wp2_with fail
    (with_reducible refine (offer_calls b g me v l rb _ HD.out hl).mono ?_)
    rintro e w1 ⟨rfl, hd, hg⟩
    have HE := Aside0.mk (And.intro hd (grown_trans HG.out hg))
    clear hd hg HD HG
    go_wp2
    go_end0
    exact ⟨rfl, by rw [HF.out]; exact HE.out.1, HE.out.2⟩
  · rw [if_neg (fun h => h.elim (beq_eq_false_iff_ne.1 b0) (beq_eq_false_iff_ne.1 b1)), if_pos (beq_iff_eq.1 b2)] at HF
    go_enter Tryd.func13, Tryd.ntmps13
    go_wp2_with fail
    (with_reducible refine (again_calls b g me v l rb _ HD.out hl).mono ?_)
    rintro e w1 ⟨rfl, hb⟩
    have HE := Aside0.mk (And.intro (HD.out.below hb) (grown_below HG.out hb))
    clear hb HD HG
    go_wp2
    go_end0
    exact ⟨rfl, by rw [HF.out]; exact HE.out.1, HE.out.2⟩
  · rw [if_neg (fun h => h.elim (beq_eq_false_iff_ne.1 b0) (beq_eq_false_iff_ne.1 b1)), if_neg (beq_eq_false_iff_ne.1 b2), if_pos (.inl (beq_iff_eq.1 b5))] at HF
    go_enter Tryd.func13, Tryd.ntmps13
    go_wp2_with fail
    (with_reducible refine (hear_calls b g me v l kd rb no take _ HD.out hl).mono ?_)
    rintro e w1 ⟨rfl, hd, hg⟩
    have HE := Aside0.mk (And.intro hd (grown_trans HG.out hg))
    clear hd hg HD HG
    go_wp2
    go_end0
    exact ⟨rfl, by rw [HF.out]; exact HE.out.1, HE.out.2⟩
  · rw [if_neg (fun h => h.elim (beq_eq_false_iff_ne.1 b0) (beq_eq_false_iff_ne.1 b1)), if_neg (beq_eq_false_iff_ne.1 b2), if_pos (.inr (.inl (beq_iff_eq.1 b6)))] at HF
    go_enter Tryd.func13, Tryd.ntmps13
    go_wp2_with fail
    (with_reducible refine (hear_calls b g me v l kd rb no take _ HD.out hl).mono ?_)
    rintro e w1 ⟨rfl, hd, hg⟩
    have HE := Aside0.mk (And.intro hd (grown_trans HG.out hg))
    clear hd hg HD HG
    go_wp2
    go_end0
    exact ⟨rfl, by rw [HF.out]; exact HE.out.1, HE.out.2⟩
  · rw [if_neg (fun h => h.elim (beq_eq_false_iff_ne.1 b0) (beq_eq_false_iff_ne.1 b1)), if_neg (beq_eq_false_iff_ne.1 b2), if_pos (.inr (.inr (beq_iff_eq.1 b7)))] at HF
    go_enter Tryd.func13, Tryd.ntmps13
    go_wp2_with fail
    (with_reducible refine (hear_calls b g me v l kd rb no take _ HD.out hl).mono ?_)
    rintro e w1 ⟨rfl, hd, hg⟩
    have HE := Aside0.mk (And.intro hd (grown_trans HG.out hg))
    clear hd hg HD HG
    go_wp2
    go_end0
    exact ⟨rfl, by rw [HF.out]; exact HE.out.1, HE.out.2⟩
  · rw [if_neg (fun h => h.elim (beq_eq_false_iff_ne.1 b0) (beq_eq_false_iff_ne.1 b1)), if_neg (beq_eq_false_iff_ne.1 b2), if_neg (fun h => h.elim (beq_eq_false_iff_ne.1 b5) (fun h => h.elim (beq_eq_false_iff_ne.1 b6) (beq_eq_false_iff_ne.1 b7)))] at HF
    go_enter Tryd.func13, Tryd.ntmps13
    go_wp2
    go_end0
    exact ⟨rfl, by rw [HF.out]; exact HD.out, HG.out⟩
end Go.Proofs.YtdgbfaflepiagaaDoor.Seam
