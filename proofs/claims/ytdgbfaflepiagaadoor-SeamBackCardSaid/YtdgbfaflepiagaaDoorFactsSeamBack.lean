/- The closed facts of the row seamBack. -/
import Derived.Test.YtdgbfaflepiagaaDoorRows
import Derived.Test.YtdgbfaflepiagaaDoorAllFacts
import Derived.JoinedOf
import Derived.KernelRfl
namespace Go.Proofs.YtdgbfaflepiagaaDoor.seamBack
open Go.Proofs.YtdgbfaflepiagaaDoor.AllFacts
set_option maxRecDepth 100000 in
set_option maxHeartbeats 40000000 in
theorem closed : joinedFacts Tryd.prog 3 Tryd.f3 Rows.seamBackSpec Rows.seamBackRow = true := by
  unfold joinedFacts
  refine and_mk (and_mk (and_mk (and_mk (and_mk (and_mk (and_mk (and_mk (and_mk (and_mk (and_mk (and_mk (and_mk (and_mk (and_mk (and_mk (and_mk (and_mk (and_mk (and_mk (and_mk (and_mk (and_mk (and_mk (and_mk (and_mk (and_mk (and_mk (and_mk (and_mk (and_mk ?_ AllFacts.laidOut) AllFacts.mapsRowed) ?_) ?_) ?_) ?_) ?_) ?_) ?_) ?_) ?_) ?_) ?_) ?_) ?_) ?_) ?_) ?_) ?_) ?_) ?_) ?_) ?_) AllFacts.stopsHeard) AllFacts.mayEnter) ?_) ?_) ?_) ?_) ?_) ?_
  all_goals (as_aux_lemma => kernel_rfl)
end Go.Proofs.YtdgbfaflepiagaaDoor.seamBack
