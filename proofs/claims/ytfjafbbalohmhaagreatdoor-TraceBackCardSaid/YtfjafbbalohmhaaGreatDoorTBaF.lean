/- The closed facts of the row TraceBack. -/
import Derived.Test.YtfjafbbalohmhaaGreatDoorFacts
import Derived.Test.YtfjafbbalohmhaaGreatDoorRows
namespace Go.Proofs.YtfjafbbalohmhaaGreatDoor
set_option maxRecDepth 100000
set_option maxRecDepth 100000 in
set_option maxHeartbeats 20000000 in
theorem traceBack_closed : joinedFacts Tryz.pinned.checked.prog 4 Tryz.f4 Rows.traceBackSpec Rows.traceBackRow = true := by
  unfold joinedFacts
  repeat' (refine andT ?_ ?_)
  all_goals (as_aux_lemma => kernel_rfl)
theorem traceBack_goes : false = Rows.traceBackRow.goesBy Tryz.pinned.checked.prog := by kernel_rfl
end Go.Proofs.YtfjafbbalohmhaaGreatDoor
