import Derived.Test.YtfjafbbalohmhaaGreatDoorFacts
import Derived.Test.YtfjafbbalohmhaaGreatDoorRows
namespace Go.Proofs.YtfjafbbalohmhaaGreatDoor
set_option maxRecDepth 100000
set_option maxRecDepth 100000 in
set_option maxHeartbeats 20000000 in
theorem drillSteps_closed : joinedFacts Tryz.pinned.checked.prog 6 Tryz.f6 Rows.drillStepsSpec Rows.drillStepsRow = true := by
  unfold joinedFacts
  repeat' (refine andT ?_ ?_)
  all_goals (as_aux_lemma => kernel_rfl)
theorem drillSteps_goes : false = Rows.drillStepsRow.goesBy Tryz.pinned.checked.prog := by kernel_rfl
end Go.Proofs.YtfjafbbalohmhaaGreatDoor
