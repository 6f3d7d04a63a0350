/- The closed facts of the row robotTells. -/
import Derived.Test.YtphcihbffiggbaaGreatDoorRows
import Derived.Test.YtphcihbffiggbaaGreatDoorAllFacts
import Derived.JoinedOf
import Derived.KernelRfl
namespace Go.Proofs.YtphcihbffiggbaaGreatDoor.robotTells
open Go.Proofs.YtphcihbffiggbaaGreatDoor.AllFacts
set_option maxRecDepth 100000 in
set_option maxHeartbeats 40000000 in
theorem closed : joinedFacts Tryz.prog 3 Tryz.f3 Rows.robotTellsSpec Rows.robotTellsRow = true := by
  unfold joinedFacts
  refine and_mk (and_mk (and_mk (and_mk (and_mk (and_mk (and_mk (and_mk (and_mk (and_mk (and_mk (and_mk (and_mk (and_mk (and_mk (and_mk (and_mk (and_mk (and_mk (and_mk (and_mk (and_mk (and_mk (and_mk (and_mk (and_mk (and_mk (and_mk (and_mk (and_mk (and_mk ?_ AllFacts.laidOut) AllFacts.mapsRowed) ?_) ?_) ?_) ?_) ?_) ?_) ?_) ?_) ?_) ?_) ?_) ?_) ?_) ?_) ?_) ?_) ?_) ?_) ?_) ?_) ?_) AllFacts.stopsHeard) AllFacts.mayEnter) ?_) ?_) ?_) ?_) ?_) ?_
  all_goals (as_aux_lemma => kernel_rfl)
end Go.Proofs.YtphcihbffiggbaaGreatDoor.robotTells
