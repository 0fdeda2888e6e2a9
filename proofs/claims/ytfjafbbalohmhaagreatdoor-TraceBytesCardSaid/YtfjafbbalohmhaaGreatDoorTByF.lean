/- The closed facts of the row TraceBytes. -/
import Derived.Test.YtfjafbbalohmhaaGreatDoorFacts
import Derived.Test.YtfjafbbalohmhaaGreatDoorRows
namespace Go.Proofs.YtfjafbbalohmhaaGreatDoor
set_option maxRecDepth 100000
set_option maxRecDepth 100000 in
set_option maxHeartbeats 20000000 in
theorem traceBytes_closed : joinedFacts Tryz.pinned.checked.prog 3 Tryz.f3 Rows.traceBytesSpec Rows.traceBytesRow = true := by
  unfold joinedFacts
  repeat' (refine andT ?_ ?_)
  all_goals (as_aux_lemma => kernel_rfl)
theorem traceBytes_goes : false = Rows.traceBytesRow.goesBy Tryz.pinned.checked.prog := by kernel_rfl
end Go.Proofs.YtfjafbbalohmhaaGreatDoor
