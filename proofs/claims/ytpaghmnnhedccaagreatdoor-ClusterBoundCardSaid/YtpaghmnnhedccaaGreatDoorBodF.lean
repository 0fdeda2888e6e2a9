import Derived.Test.YtpaghmnnhedccaaGreatDoorFacts
import Derived.Test.YtpaghmnnhedccaaGreatDoorRows
namespace Go.Proofs.YtpaghmnnhedccaaGreatDoor
set_option maxRecDepth 100000
set_option maxHeartbeats 4000000
set_option maxRecDepth 100000 in
theorem Om :joinedFacts Tryz.pinned.checked.prog 3 Tryz.f3 Rows.clusterBoundSpec Rows.clusterBoundRow=true:=by
 unfold joinedFacts
 repeat' (refine zkS ?_ ?_)
 all_goals (as_aux_lemma=>kernel_rfl)
theorem Rk :false=Rows.clusterBoundRow.goesBy Tryz.pinned.checked.prog:=by kernel_rfl
end Go.Proofs.YtpaghmnnhedccaaGreatDoor
