/- The closed facts of the row WorldNil. -/
import Derived.Test.YtnmjfakibhekmaaGreatDoorFacts
import Derived.Test.YtnmjfakibhekmaaGreatDoorRows
namespace Go.Proofs.YtnmjfakibhekmaaGreatDoor
set_option maxRecDepth 100000
set_option maxRecDepth 100000 in
set_option maxHeartbeats 20000000 in
theorem worldNil_closed : joinedFacts Tryz.pinned.checked.prog 8 Tryz.f8 Rows.worldNilSpec Rows.worldNilRow = true := by
  unfold joinedFacts
  repeat' (refine andT ?_ ?_)
  all_goals (as_aux_lemma => kernel_rfl)
theorem worldNil_goes : false = Rows.worldNilRow.goesBy Tryz.pinned.checked.prog := by kernel_rfl
end Go.Proofs.YtnmjfakibhekmaaGreatDoor
