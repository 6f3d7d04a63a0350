import Derived.Test.YtphcihbffiggbaaGreatDoorVt
import Derived.Test.YtphcihbffiggbaaGreatDoorOpens
namespace Go.Proofs.YtphcihbffiggbaaGreatDoor
open Go.RowKit Go.Proofs.YtphcihbffiggbaaGreatDoorW.PrintWords Go.Proofs.YtphcihbffiggbaaGreatDoorW.PrintMore
set_option linter.unusedVariables false
def Cs (w : World) : List (Addr × Value) → Prop
  | [] => True
  | (a, v) :: l => w.cell? a = some v ∧ Cs w l
def Rs (w : World) : List (Option Addr × List Int) → Prop
  | [] => True
  | (A, l) :: r => Kd.C (Kd.int .i64) w A l.length l ∧ Rs w r
theorem Rs.g {w : World} {A : Option Addr} {l : List Int} {r : List (Option Addr × List Int)} (h : Rs w ((A, l) :: r)) : Kd.C (Kd.int .i64) w A l.length l := h.1
theorem Rs.t {w : World} {A : Option Addr} {l : List Int} {r : List (Option Addr × List Int)} (h : Rs w ((A, l) :: r)) : Rs w r := h.2
theorem Cs.below {w w1 : World} (hb : Below w.heap.size w w1) : ∀ {l : List (Addr × Value)}, Cs w l → Cs w1 l
  | [], _ => trivial
  | (_, _) :: _, h => ⟨pw_cell_below hb h.1, Cs.below hb h.2⟩
theorem Rs.below {w w1 : World} (hb : Below w.heap.size w w1) : ∀ {l : List (Option Addr × List Int)}, Rs w l → Rs w1 l
  | [], _ => trivial
  | (_, _) :: _, h => ⟨Kd.C_below h.1 hb, Rs.below hb h.2⟩
structure St (w0 w : World) (cs : List (Addr × Value)) (rs : List (Option Addr × List Int)) : Prop where
  bel : Below w0.heap.size w0 w
  cells : Cs w cs
  rows : Rs w rs
section
variable {w0 w w1 : World} {cs : List (Addr × Value)} {rs : List (Option Addr × List Int)}
theorem St.below (h : St w0 w cs rs) (hb : Below w.heap.size w w1) : St w0 w1 cs rs := ⟨below_then h.bel (below_size h.bel) hb, h.cells.below hb, h.rows.below hb⟩
theorem St.drawn (h : St w0 w cs rs) (hd : Drawn0 w w1) : St w0 w1 cs rs := h.below hd.below
theorem St.drew (h : St w0 w cs rs) : St w0 w.drew cs rs := h.below (below_drew (Below.refl _ _))
theorem St.drewN (h : St w0 w cs rs) (n : Nat) : St w0 (w.drewN n) cs rs := h.below (pw_below_drewN (Below.refl _ _) n)
theorem St.alloc (h : St w0 w cs rs) (o : Obj) : St w0 (w.alloc o) cs rs := h.below (below_alloc (Below.refl _ _) o)
theorem St.cell (h : St w0 w cs rs) {a : Addr} {v : Value} (hc : w.cell? a = some v) : St w0 w ((a, v) :: cs) rs := ⟨h.bel, ⟨hc, h.cells⟩, h.rows⟩
theorem St.row (h : St w0 w cs rs) {A : Option Addr} {l : List Int} (hc : Kd.C (Kd.int .i64) w A l.length l) : St w0 w cs ((A, l) :: rs) := ⟨h.bel, h.cells, hc, h.rows⟩
theorem St.new2 (h : St w0 w cs rs) (g : Nat) (hg : g = w.heap.size) (u v : Value) (t : TypeId) : St w0 (w.alloc (.cells #[u, v] t)) ((⟨g, 0, none⟩, u) :: (⟨g, 1, none⟩, v) :: cs) rs := by
  subst hg
  exact ((h.alloc _).cell ((blk_cell (blk_new w _) 1).trans rfl)).cell ((blk_cell (blk_new w _) 0).trans rfl)
theorem St.new5 (h : St w0 w cs rs) (g : Nat) (hg : g = w.heap.size) (a b c d e : Value) (t : TypeId) : St w0 (w.alloc (.cells #[a, b, c, d, e] t)) ((⟨g, 0, none⟩, a) :: (⟨g, 1, none⟩, b) :: (⟨g, 2, none⟩, c) :: (⟨g, 3, none⟩, d) :: (⟨g, 4, none⟩, e) :: cs) rs := by
  subst hg
  exact (((((h.alloc _).cell ((blk_cell (blk_new w _) 4).trans rfl)).cell ((blk_cell (blk_new w _) 3).trans rfl)).cell ((blk_cell (blk_new w _) 2).trans rfl)).cell ((blk_cell (blk_new w _) 1).trans rfl)).cell ((blk_cell (blk_new w _) 0).trans rfl)
end
end Go.Proofs.YtphcihbffiggbaaGreatDoor
