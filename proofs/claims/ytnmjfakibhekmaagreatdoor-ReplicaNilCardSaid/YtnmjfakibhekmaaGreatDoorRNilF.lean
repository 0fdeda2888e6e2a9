/- The closed facts of the row ReplicaNil. -/
import Derived.Test.YtnmjfakibhekmaaGreatDoorFacts
import Derived.Test.YtnmjfakibhekmaaGreatDoorRows
namespace Go.Proofs.YtnmjfakibhekmaaGreatDoor
set_option maxRecDepth 100000
set_option maxRecDepth 100000 in
set_option maxHeartbeats 20000000 in
theorem replicaNil_closed : joinedFacts Tryz.pinned.checked.prog 3 Tryz.f3 Rows.replicaNilSpec Rows.replicaNilRow = true := by
  unfold joinedFacts
  repeat' (refine andT ?_ ?_)
  all_goals (as_aux_lemma => kernel_rfl)
theorem replicaNil_goes : false = Rows.replicaNilRow.goesBy Tryz.pinned.checked.prog := by kernel_rfl
end Go.Proofs.YtnmjfakibhekmaaGreatDoor
