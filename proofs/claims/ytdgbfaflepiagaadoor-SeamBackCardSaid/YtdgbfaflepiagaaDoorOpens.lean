/- What comes in as data: each value of a kind that the print tells reads as a plain list, number, string or record. No program in sight. -/
import Derived.Test.YtdgbfaflepiagaaDoorWMore
import Derived.Deep.Slices
import Derived.ChangeArms
import Derived.WideShapes
namespace Go.Proofs.YtdgbfaflepiagaaDoor.Opens
open Go.RowKit Go.Deep Go.WideShapes Go.Proofs.YtdgbfaflepiagaaDoorW.PrintWords Go.Proofs.YtdgbfaflepiagaaDoorW.PrintLast Go.Proofs.YtdgbfaflepiagaaDoorW.PrintMore
set_option linter.unusedVariables false
set_option linter.unusedSimpArgs false

/-- Whatever reads as a datum of type t is an element of the kind d, and a good one. -/
def Opens {α : Type} (P : Program) (d : Kd α) (t : TypeId) (G : α → Prop) : Prop :=
  ∀ (H : Type) (enc : TypeId × Value → H) (w : World) (base : Nat) (spare : Nat → Bool) (held : Bool) (fuel : Nat) (cs : List Value) (x : DataW H × List MemPlace),
    DataW.trod enc P w base spare held fuel t cs = some x → ∃ a, G a ∧ d.K w a cs
variable {P : Program}
theorem opens_int {k : IntKind} {t : TypeId} (ht : P.underlying t = some (.int k)) : Opens P (Kd.int k) t (fun n => (Lit.int k n).wf = true) := by
  intro H enc w base spare held fuel cs x h
  obtain ⟨n, rfl, _, hw⟩ := DataW.trod_int ht h
  exact ⟨n, hw, rfl⟩
theorem opens_bool {t : TypeId} (ht : P.underlying t = some .bool) : Opens P Kd.bool t (fun _ => True) := by
  intro H enc w base spare held fuel cs x h
  obtain ⟨n, rfl, _⟩ := DataW.trod_bool ht h
  exact ⟨n, trivial, rfl⟩
theorem opens_string {t : TypeId} (ht : P.underlying t = some .string) : Opens P Kd.string t (fun s => s.size ≤ maxLen) := by
  intro H enc w base spare held fuel cs x h
  obtain ⟨n, rfl, _, hs⟩ := DataW.trod_string ht h
  exact ⟨n, hs, rfl⟩
theorem Opens.any {α : Type} {d : Kd α} {t : TypeId} {G : α → Prop} (h : Opens P d t G) : Opens P d t (fun _ => True) := by
  intro H enc w base spare held fuel cs x hx
  obtain ⟨a, _, hK⟩ := h H enc w base spare held fuel cs x hx
  exact ⟨a, trivial, hK⟩
theorem list_of {α : Type} {Q : Nat → α → Prop} (n : Nat) (h : ∀ i, i < n → ∃ a, Q i a) : ∃ l : List α, l.length = n ∧ ∀ i a, l[i]? = some a → Q i a := by
  induction n with
  | zero => exact ⟨[], rfl, fun i a h => by simp at h⟩
  | succ n ih =>
    obtain ⟨l, hl, hq⟩ := ih (fun i hi => h i (by omega))
    obtain ⟨a, ha⟩ := h n (by omega)
    refine ⟨l ++ [a], by simp [hl], fun i b hb => ?_⟩
    rcases Nat.lt_or_ge i l.length with hi | hi
    · rw [List.getElem?_append_left hi] at hb; exact hq i b hb
    · have hi' : i = l.length := by
        have := (List.getElem?_eq_some_iff.1 hb).1
        simp at this; omega
      subst hi'
      have : a = b := by simpa using hb
      subst this
      rw [hl]; exact ha
theorem opens_slice {α : Type} {d : Kd α} {t e : TypeId} {G : α → Prop} (ht : P.underlying t = some (.slice e)) (hsz : P.cellsOf e = d.sz) (hd : Opens P d e G) :
    Opens P (Kd.slice e d) t (fun l => l.length ≤ maxLen ∧ ∀ a ∈ l, G a) := by
  intro H enc w base spare held fuel cs x h
  rcases open_slice ht h with ⟨rfl, _⟩ | ⟨a, len, cap, m, n, D, Pl, rfl, _, hl, hm, hmm, _, hi⟩
  · exact ⟨[], ⟨by simp, by simp⟩, none, 0, rfl, Nat.le_refl _, rfl, by simp, fun h => absurd h (by simp)⟩
  · obtain ⟨l, hll, hq⟩ := list_of (Q := fun i p => G p ∧ ∃ c, c.length = d.sz ∧ d.K w p c ∧ ∀ j u, c[j]? = some u → w.cell? (a.add (i * d.sz + j)) = some u) len (fun i hil => by
      have him : i < m := by rw [hmm]; split <;> omega
      obtain ⟨cs', hc, ht'⟩ := hi i him
      obtain ⟨p, hG, hK⟩ := hd _ _ _ _ _ _ _ _ _ ht'
      obtain ⟨_, hcl, hat⟩ := World.cells?_some hc
      rw [hsz] at hcl hat
      refine ⟨p, hG, cs', hcl, hK, fun j u hj => ?_⟩
      have hjl : j < d.sz := by have := (List.getElem?_eq_some_iff.1 hj).1; omega
      rw [← Go.Deep.add_add, hat j hjl]
      exact hj)
    subst hll
    refine ⟨l, ⟨by omega, fun b hb => ?_⟩, some a, cap, rfl, hl, rfl, by unfold maxLen at hm; omega, fun _ => ⟨a, rfl, fun j p hj => (hq j p hj).2⟩⟩
    obtain ⟨i, hi', he⟩ := List.getElem_of_mem hb
    exact (hq i b (by rw [List.getElem?_eq_getElem hi', he])).1

/-- The fields of a struct from an offset on. -/
def OpensF {α : Type} (P : Program) (d : Kd α) (fs : List Field) (off : Nat) (G : α → Prop) : Prop :=
  ∀ (H : Type) (enc : TypeId × Value → H) (w : World) (base : Nat) (spare : Nat → Bool) (held : Bool) (n : Nat) (cs : List Value), cs.length = off + d.sz →
    (∀ (i : Nat) (f : Field), fs[i]? = some f → ∃ x, DataW.trod enc P w base spare held n f.type ((cs.drop f.offset).take (P.cellsOf f.type)) = some x) → ∃ a, G a ∧ d.K w a (cs.drop off)
theorem opensF_one {α : Type} {d : Kd α} {f : Field} {off : Nat} {G : α → Prop} (ho : f.offset = off) (hs : P.cellsOf f.type = d.sz) (hd : Opens P d f.type G) : OpensF P d [f] off G := by
  intro H enc w base spare held n cs hl h
  obtain ⟨x, hx⟩ := h 0 f rfl
  rw [ho, hs, List.take_of_length_le (by rw [List.length_drop]; omega)] at hx
  exact hd _ _ _ _ _ _ _ _ _ hx
theorem opensF_cons {α β : Type} {a : Kd α} {b : Kd β} {f : Field} {fs : List Field} {off : Nat} {G : α → Prop} {G' : β → Prop} (ho : f.offset = off) (hs : P.cellsOf f.type = a.sz) (hd : Opens P a f.type G) (hr : OpensF P b fs (off + a.sz) G') :
    OpensF P (Kd.pair a b) (f :: fs) off (fun p => G p.1 ∧ G' p.2) := by
  intro H enc w base spare held n cs hl h
  have hl' : cs.length = off + (a.sz + b.sz) := hl
  obtain ⟨x, hx⟩ := h 0 f rfl
  rw [ho, hs] at hx
  obtain ⟨p, hG, hK⟩ := hd _ _ _ _ _ _ _ _ _ hx
  obtain ⟨q, hG', hK'⟩ := hr H enc w base spare held n cs (by omega) (fun i g hg => h (i + 1) g hg)
  refine ⟨(p, q), ⟨hG, hG'⟩, _, _, ?_, hK, hK'⟩
  rw [← List.drop_drop, List.take_append_drop]
theorem opens_struct {α β : Type} {d : Kd α} {t : TypeId} {fs : List Field} {G : α → Prop} (g : β → α) (g' : α → β) (hg : ∀ a, g (g' a) = a) (ht : P.underlying t = some (.struct fs.toArray)) (hs : P.cellsOf t = d.sz) (hF : OpensF P d fs 0 G) :
    Opens P (Kd.iso d g) t (fun x => G (g x)) := by
  intro H enc w base spare held fuel cs x h
  obtain ⟨xs, n, _, _, hlen, hxl, hf⟩ := DataW.trod_struct ht h
  obtain ⟨a, hG, hK⟩ := hF H enc w base spare held n cs (by rw [hlen, hs]; omega) (fun i f hi => by
    have := hf i f (by simpa using hi)
    have hil : i < xs.length := by rw [hxl]; simpa using (List.getElem?_eq_some_iff.1 hi).1
    exact ⟨_, this.trans (List.getElem?_eq_getElem hil)⟩)
  rw [List.drop_zero] at hK
  exact ⟨g' a, by show G (g (g' a)); rw [hg]; exact hG, by show d.K w (g (g' a)) cs; rw [hg]; exact hK⟩

/-- A row of one-cell elements reads alike in all worlds with the same blocks. -/
theorem foot_of {α : Type} {d : Kd α} (hd : ∀ {w w1 : World} {A : Option Addr} {l : List α}, d.C w A l.length l → Below w.heap.size w w1 → d.C w1 A l.length l) (hs : ∀ {w w1 : World} {A : Option Addr} {l : List α}, w.heap = w1.heap → d.C w A l.length l → d.C w1 A l.length l) {w : World} {A : Option Addr} {l : List α} (h : d.C w A l.length l) : Kd.F d w (fun _ => True) A l.length l := by
  intro W' hW
  have hsz : w.heap.size ≤ W'.heap.size := by
    rcases Nat.eq_zero_or_pos w.heap.size with h0 | h0
    · omega
    · have := hW (w.heap.size - 1) trivial (by omega)
      rw [Array.getElem?_eq_getElem (show w.heap.size - 1 < w.heap.size by omega)] at this
      have := (Array.getElem?_eq_some_iff.1 this).1
      omega
  have hb : Below w.heap.size w { w with heap := W'.heap } := ⟨rfl, rfl, rfl, hsz, fun k hk => hW k trivial hk⟩
  exact hs (w := { w with heap := W'.heap }) rfl (hd h hb)
theorem foot_ints {w : World} {A : Option Addr} {l : List Int} (h : Kd.C (Kd.int .i64) w A l.length l) : Kd.F (Kd.int .i64) w (fun _ => True) A l.length l :=
  foot_of (fun h hb => Kd.C_below h hb) (fun {w w1} _ _ e h => Kd.C_of_reads (d := (0 : Int)) (by
    have := Kd.reads_of_C (d := (0 : Int)) h
    exact ⟨this.1, this.2.1, fun hn => by obtain ⟨ad, e1, hc⟩ := this.2.2 hn; exact ⟨ad, e1, fun j hj => by have := hc j hj; unfold World.cell? at *; rw [← e]; exact this⟩⟩)) h
theorem foot_strings {w : World} {A : Option Addr} {l : List ByteArray} (h : Kd.C Kd.string w A l.length l) : Kd.F Kd.string w (fun _ => True) A l.length l :=
  foot_of (fun h hb => Kd.C_below h hb) (fun {w w1} _ _ e h => Kd.C_of_reads (d := ByteArray.empty) (by
    have := Kd.reads_of_C (d := ByteArray.empty) h
    exact ⟨this.1, this.2.1, fun hn => by obtain ⟨ad, e1, hc⟩ := this.2.2 hn; exact ⟨ad, e1, fun j hj => by have := hc j hj; unfold World.cell? at *; rw [← e]; exact this⟩⟩)) h
/-! ### a call's argument -/
section
variable {H : Type} {enc : TypeId × Value → H} {w : World} {r : Reach} {b0 base : Nat} {spare : Nat → Bool} {held : Bool} {v : Value} {dd : DataW H} {p : List MemPlace}
theorem arg_struct {α : Type} {d : Kd α} {t : TypeId} {fs : Array Field} {G : α → Prop} (hd : Opens P d t G) (ht : P.underlying t = some (.struct fs)) (hv : Value.okWide P w r b0 t v) (h : DataW.Trod enc P w base spare held t v dd p) :
    ∃ a cs, v = .agg (cs : List Value).toArray ∧ G a ∧ d.K w a cs := by
  obtain ⟨cs, rfl, _⟩ := okWide_struct ht hv
  obtain ⟨fuel, hf⟩ := h
  obtain ⟨a, hG, hK⟩ := hd _ _ _ _ _ _ _ _ _ hf
  exact ⟨a, cs.toList, by simp, hG, by simpa [Value.cells] using hK⟩
theorem arg_slice {α : Type} {d : Kd α} {t e : TypeId} {G : List α → Prop} (hd : Opens P (Kd.slice e d) t G) (ht : P.underlying t = some (.slice e)) (hv : Value.okWide P w r b0 t v) (h : DataW.Trod enc P w base spare held t v dd p) :
    ∃ A c l, v = .slice A (l : List α).length c ∧ G l ∧ l.length ≤ c ∧ d.C w A l.length l := by
  obtain ⟨A, len, cap, rfl⟩ := okWide_slice ht hv
  obtain ⟨fuel, hf⟩ := h
  obtain ⟨l, hG, A', c', he, hl, hC⟩ := hd _ _ _ _ _ _ _ _ _ hf
  simp [Value.cells] at he
  obtain ⟨rfl, rfl, rfl⟩ := he
  exact ⟨_, _, l, rfl, hG, hl, hC⟩
end
end Go.Proofs.YtdgbfaflepiagaaDoor.Opens
