/- The closed facts of the row robotBack. -/
import Derived.Test.YtigdjhnpngjhjaaDoorRows
import Derived.Test.YtigdjhnpngjhjaaDoorAllFacts
import Derived.JoinedOf
import Derived.KernelRfl
namespace Go.Proofs.YtigdjhnpngjhjaaDoor.robotBack
open Go.Proofs.YtigdjhnpngjhjaaDoor.AllFacts
set_option maxRecDepth 100000 in
set_option maxHeartbeats 40000000 in
theorem closed : joinedFacts Tryd.prog 12 Tryd.f12 Rows.robotBackSpec Rows.robotBackRow = true := by
  unfold joinedFacts
  refine and_mk (and_mk (and_mk (and_mk (and_mk (and_mk (and_mk (and_mk (and_mk (and_mk (and_mk (and_mk (and_mk (and_mk (and_mk (and_mk (and_mk (and_mk (and_mk (and_mk (and_mk (and_mk (and_mk (and_mk (and_mk (and_mk (and_mk (and_mk (and_mk (and_mk (and_mk ?_ AllFacts.laidOut) AllFacts.mapsRowed) ?_) ?_) ?_) ?_) ?_) ?_) ?_) ?_) ?_) ?_) ?_) ?_) ?_) ?_) ?_) ?_) ?_) ?_) ?_) ?_) ?_) AllFacts.stopsHeard) AllFacts.mayEnter) ?_) ?_) ?_) ?_) ?_) ?_
  all_goals (as_aux_lemma => kernel_rfl)
end Go.Proofs.YtigdjhnpngjhjaaDoor.robotBack
