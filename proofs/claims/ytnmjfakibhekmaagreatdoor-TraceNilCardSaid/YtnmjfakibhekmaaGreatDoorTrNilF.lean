/- The closed facts of the row TraceNil. -/
import Derived.Test.YtnmjfakibhekmaaGreatDoorFacts
import Derived.Test.YtnmjfakibhekmaaGreatDoorRows
namespace Go.Proofs.YtnmjfakibhekmaaGreatDoor
set_option maxRecDepth 100000
set_option maxRecDepth 100000 in
set_option maxHeartbeats 20000000 in
theorem traceNil_closed : joinedFacts Tryz.pinned.checked.prog 6 Tryz.f6 Rows.traceNilSpec Rows.traceNilRow = true := by
  unfold joinedFacts
  repeat' (refine andT ?_ ?_)
  all_goals (as_aux_lemma => kernel_rfl)
theorem traceNil_goes : false = Rows.traceNilRow.goesBy Tryz.pinned.checked.prog := by kernel_rfl
end Go.Proofs.YtnmjfakibhekmaaGreatDoor
