/- The closed facts of the row DurableNil. -/
import Derived.Test.YtnmjfakibhekmaaGreatDoorFacts
import Derived.Test.YtnmjfakibhekmaaGreatDoorRows
namespace Go.Proofs.YtnmjfakibhekmaaGreatDoor
set_option maxRecDepth 100000
set_option maxRecDepth 100000 in
set_option maxHeartbeats 20000000 in
theorem durableNil_closed : joinedFacts Tryz.pinned.checked.prog 4 Tryz.f4 Rows.durableNilSpec Rows.durableNilRow = true := by
  unfold joinedFacts
  repeat' (refine andT ?_ ?_)
  all_goals (as_aux_lemma => kernel_rfl)
theorem durableNil_goes : false = Rows.durableNilRow.goesBy Tryz.pinned.checked.prog := by kernel_rfl
end Go.Proofs.YtnmjfakibhekmaaGreatDoor
