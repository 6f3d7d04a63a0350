/- The listed variables' facts out of a row's condition. -/
import Derived.Test.YtphcihbffiggbaaGreatDoorRows
import Derived.Test.YtphcihbffiggbaaGreatDoorBase
import Derived.MakeChecks
import Derived.Lib.LaidTab
import Derived.Stop.LaidErr
namespace Go.Proofs.YtphcihbffiggbaaGreatDoor
open Go.RowKit
abbrev laidL : List (String × DataW Unit) := Rows.robotTellsRow.laid
theorem row_err : ∀ u, Tryz.prog.typeName? 3 u = some "*errors.errorString" → u = 129 := typeName_ptr_named (nm := "errors.errorString") (by kernel_rfl) (by kernel_rfl) (by decide)
theorem tabs_of_laid {W : World} (h : laidMetH Tryz.prog laidL W) : Tabs W := by
  rw [MakeChecks.laidMetH_plain _ _ _ (by kernel_rfl)] at h
  have h2 := h.tail.tail
  have h3 := h2.tail
  refine ⟨?_, ?_, ?_⟩
  · exact Lib.tabIs_of_head (g := 3) (t := 123) (e := 107) (n := 20) (by kernel_rfl) (by kernel_rfl) Tryz.underlying123 Tryz.underlying107 (by kernel_rfl) (by kernel_rfl) h2
  · obtain ⟨a, s, hv, _⟩ := laid_sentinel h3.tail (g := 1) (by kernel_rfl) (by kernel_rfl) Tryz.underlying76 row_err Tryz.underlying129 Tryz.underlying131 rfl rfl Tryz.underlying9 (by kernel_rfl) (by kernel_rfl)
    exact ⟨_, _, hv⟩
  · obtain ⟨a, s, hv, _⟩ := laid_sentinel h3 (g := 2) (by kernel_rfl) (by kernel_rfl) Tryz.underlying76 row_err Tryz.underlying129 Tryz.underlying131 rfl rfl Tryz.underlying9 (by kernel_rfl) (by kernel_rfl)
    exact ⟨_, _, hv⟩
end Go.Proofs.YtphcihbffiggbaaGreatDoor
