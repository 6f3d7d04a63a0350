/- A shared row that holds elements lies in blocks that its footprint names. -/
import Derived.Test.YtdgbfaflepiagaaDoorBase
import Derived.Test.YtdgbfaflepiagaaDoorWShare
namespace Go.Proofs.YtdgbfaflepiagaaDoor
open Go.RowKit Go.Proofs.YtdgbfaflepiagaaDoorW.PrintWords Go.Proofs.YtdgbfaflepiagaaDoorW.PrintMore
theorem far_foot {P : World → Prop} {W : World} {ok : Nat → Prop} {g : Nat} (hF : ∀ W' : World, (∀ k, ok k → k < W.heap.size → W'.heap[k]? = W.heap[k]?) → P W') (hk : ∀ k, ok k → k ≠ g) :
    ∃ W' : World, P W' ∧ ∀ a : Addr, a.block = g → W'.cell? a = none := by
  refine ⟨{ W with heap := W.heap.setIfInBounds g (.cells #[] 0 (0, 0)) }, hF _ (fun k hok _ => ?_), fun a ha => ?_⟩
  · exact Array.getElem?_setIfInBounds_ne (fun e => hk k hok e.symm)
  · unfold World.cell?
    show (match (W.heap.setIfInBounds g (.cells #[] 0 (0, 0)))[a.block]? with | some (.cells c _ _) => if a.spot.isSome then none else c[a.off]? | _ => none) = none
    rw [ha]
    by_cases hlt : g < W.heap.size
    · rw [Array.getElem?_setIfInBounds_self_of_lt hlt]
      simp
    · rw [Array.getElem?_eq_none (by simpa using hlt)]
theorem far_ints {e : TypeId} {base : Nat} {ok : Nat → Prop} {g : Nat} {W : World} {A : Option Addr} {c : Nat} {l : List Int} (h : Kd.V (Kd.int .i64) e W base ok (.slice A l.length c) l) (hk : ∀ k, ok k → k ≠ g) : ∀ ad, A = some ad → 0 < l.length → ad.block ≠ g := by
  intro ad hA hn hg
  obtain ⟨A', c', he, hl, hF⟩ := h
  injection he with e1 e2 e3
  subst e1
  obtain ⟨W', hC, hnone⟩ := far_foot hF hk
  obtain ⟨ad', e1, hc⟩ := (Kd.reads_of_C (d := (0 : Int)) hC).2.2 hn
  rw [hA] at e1
  obtain rfl := Option.some.inj e1
  have := hc 0 hn
  rw [hnone _ (by rw [add_block]; exact hg)] at this
  cases this
theorem far_strings {e : TypeId} {base : Nat} {ok : Nat → Prop} {g : Nat} {W : World} {A : Option Addr} {c : Nat} {l : List ByteArray} (h : Kd.V Kd.string e W base ok (.slice A l.length c) l) (hk : ∀ k, ok k → k ≠ g) : ∀ ad, A = some ad → 0 < l.length → ad.block ≠ g := by
  intro ad hA hn hg
  obtain ⟨A', c', he, hl, hF⟩ := h
  injection he with e1 e2 e3
  subst e1
  obtain ⟨W', hC, hnone⟩ := far_foot hF hk
  obtain ⟨ad', e1, hc⟩ := (Kd.reads_of_C (d := ByteArray.empty) hC).2.2 hn
  rw [hA] at e1
  obtain rfl := Option.some.inj e1
  have := hc 0 hn
  rw [hnone _ (by rw [add_block]; exact hg)] at this
  cases this
theorem far_any {P : Prop} (h : P) : P := h
end Go.Proofs.YtdgbfaflepiagaaDoor
