import Derived.Test.YtgohpbmmcgenpaaGreatDoorFacts
import Derived.Test.YtgohpbmmcgenpaaGreatDoorRows
namespace Go.Proofs.YtgohpbmmcgenpaaGreatDoor
set_option maxRecDepth 100000
set_option maxHeartbeats 4000000
set_option maxRecDepth 100000 in
theorem NJ :joinedFacts Tryz.pinned.checked.prog 3 Tryz.f3 Rows.clusterAgainSpec Rows.clusterAgainRow=true:=by
 unfold joinedFacts
 repeat' (refine zjM ?_ ?_)
 all_goals (as_aux_lemma=>kernel_rfl)
theorem Qx :false=Rows.clusterAgainRow.goesBy Tryz.pinned.checked.prog:=by kernel_rfl
end Go.Proofs.YtgohpbmmcgenpaaGreatDoor
