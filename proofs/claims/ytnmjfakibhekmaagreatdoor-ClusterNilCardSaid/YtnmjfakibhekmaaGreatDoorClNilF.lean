/- The closed facts of the row ClusterNil. -/
import Derived.Test.YtnmjfakibhekmaaGreatDoorFacts
import Derived.Test.YtnmjfakibhekmaaGreatDoorRows
namespace Go.Proofs.YtnmjfakibhekmaaGreatDoor
set_option maxRecDepth 100000
set_option maxRecDepth 100000 in
set_option maxHeartbeats 20000000 in
theorem clusterNil_closed : joinedFacts Tryz.pinned.checked.prog 5 Tryz.f5 Rows.clusterNilSpec Rows.clusterNilRow = true := by
  unfold joinedFacts
  repeat' (refine andT ?_ ?_)
  all_goals (as_aux_lemma => kernel_rfl)
theorem clusterNil_goes : false = Rows.clusterNilRow.goesBy Tryz.pinned.checked.prog := by kernel_rfl
end Go.Proofs.YtnmjfakibhekmaaGreatDoor
