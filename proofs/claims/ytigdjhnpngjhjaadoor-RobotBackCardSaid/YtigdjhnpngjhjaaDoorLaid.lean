/- The listed variables' facts out of a row's condition. -/
import Derived.Test.YtigdjhnpngjhjaaDoorRows
import Derived.Test.YtigdjhnpngjhjaaDoorBase
import Derived.MakeChecks
import Derived.Lib.LaidTab
import Derived.Stop.LaidErr
namespace Go.Proofs.YtigdjhnpngjhjaaDoor
open Go.RowKit
/-- what the rows list -/
abbrev laidL : List (String × DataW Unit) := Rows.wireWritesRow.laid
theorem pow_eq : (Rows.laid_internal_strconv_uint64pow10 : DataW Unit) = Lib.tabData .u64 Lib.pow10Tab := by rfl
theorem row_err : ∀ u, Tryd.prog.typeName? 3 u = some "*errors.errorString" → u = 348 := typeName_ptr_named (nm := "errors.errorString") (by kernel_rfl) (by kernel_rfl) (by decide)
theorem tabs_of_laid {W : World} (h : laidMetH Tryd.prog laidL W) : Tabs W := by
  rw [MakeChecks.laidMetH_plain _ _ _ (by kernel_rfl)] at h
  have h2 := h.tail.tail
  have h3 := h2.tail
  refine ⟨?_, ?_, ?_⟩
  · exact Lib.tabIs_of_head (g := 0) (t := 338) (e := 315) (n := 20) (by kernel_rfl) (by kernel_rfl) Tryd.underlying338 Tryd.underlying315 (by kernel_rfl) (by kernel_rfl) h2
  · obtain ⟨a, s, hv, _⟩ := laid_sentinel h3.tail (g := 2) (by kernel_rfl) (by kernel_rfl) Tryd.underlying208 row_err Tryd.underlying348 Tryd.underlying350 rfl rfl Tryd.underlying9 (by kernel_rfl) (by kernel_rfl)
    exact ⟨_, _, hv⟩
  · obtain ⟨a, s, hv, _⟩ := laid_sentinel h3 (g := 3) (by kernel_rfl) (by kernel_rfl) Tryd.underlying208 row_err Tryd.underlying348 Tryd.underlying350 rfl rfl Tryd.underlying9 (by kernel_rfl) (by kernel_rfl)
    exact ⟨_, _, hv⟩
end Go.Proofs.YtigdjhnpngjhjaaDoor
