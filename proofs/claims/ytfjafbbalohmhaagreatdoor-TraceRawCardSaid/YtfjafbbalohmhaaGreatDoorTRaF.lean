import Derived.Test.YtfjafbbalohmhaaGreatDoorFacts
import Derived.Test.YtfjafbbalohmhaaGreatDoorRows
namespace Go.Proofs.YtfjafbbalohmhaaGreatDoor
set_option maxRecDepth 100000
set_option maxRecDepth 100000 in
set_option maxHeartbeats 20000000 in
theorem traceRaw_closed : joinedFacts Tryz.pinned.checked.prog 5 Tryz.f5 Rows.traceRawSpec Rows.traceRawRow = true := by
  unfold joinedFacts
  repeat' (refine andT ?_ ?_)
  all_goals (as_aux_lemma => kernel_rfl)
theorem traceRaw_goes : false = Rows.traceRawRow.goesBy Tryz.pinned.checked.prog := by kernel_rfl
end Go.Proofs.YtfjafbbalohmhaaGreatDoor
