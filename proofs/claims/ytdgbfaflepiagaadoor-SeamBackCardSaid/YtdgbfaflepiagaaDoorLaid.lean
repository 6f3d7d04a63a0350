/- The listed variables' facts out of a row's condition. -/
import Derived.Test.YtdgbfaflepiagaaDoorRows
import Derived.Test.YtdgbfaflepiagaaDoorBase
import Derived.MakeChecks
import Derived.Lib.LaidTab
import Derived.Stop.LaidErr
namespace Go.Proofs.YtdgbfaflepiagaaDoor
open Go.RowKit
/-- what the rows list -/
abbrev laidL : List (String × DataW Unit) := Rows.seamBackRow.laid
theorem pow_eq : (Rows.laid_internal_strconv_uint64pow10 : DataW Unit) = Lib.tabData .u64 Lib.pow10Tab := by rfl
theorem row_err : ∀ u, Tryd.prog.typeName? 3 u = some "*errors.errorString" → u = 155 := typeName_ptr_named (nm := "errors.errorString") (by kernel_rfl) (by kernel_rfl) (by decide)
theorem tabs_of_laid {W : World} (h : laidMetH Tryd.prog laidL W) : Tabs W := by
  rw [MakeChecks.laidMetH_plain _ _ _ (by kernel_rfl)] at h
  have h2 := h.tail.tail
  have h3 := h2.tail
  refine ⟨?_, ?_, ?_⟩
  · exact Lib.tabIs_of_head (g := 3) (t := 149) (e := 136) (n := 20) (by kernel_rfl) (by kernel_rfl) Tryd.underlying149 Tryd.underlying136 (by kernel_rfl) (by kernel_rfl) h2
  · obtain ⟨a, s, hv, _⟩ := laid_sentinel h3.tail (g := 1) (by kernel_rfl) (by kernel_rfl) Tryd.underlying92 row_err Tryd.underlying155 Tryd.underlying157 rfl rfl Tryd.underlying9 (by kernel_rfl) (by kernel_rfl)
    exact ⟨_, _, hv⟩
  · obtain ⟨a, s, hv, _⟩ := laid_sentinel h3 (g := 2) (by kernel_rfl) (by kernel_rfl) Tryd.underlying92 row_err Tryd.underlying155 Tryd.underlying157 rfl rfl Tryd.underlying9 (by kernel_rfl) (by kernel_rfl)
    exact ⟨_, _, hv⟩
end Go.Proofs.YtdgbfaflepiagaaDoor
