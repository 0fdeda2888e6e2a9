import Derived.Test.YtkbhfjljieopoaaGreatDoorFacts
import Derived.Test.YtkbhfjljieopoaaGreatDoorRows
namespace Go.Proofs.YtkbhfjljieopoaaGreatDoor
set_option maxRecDepth 100000
set_option maxRecDepth 100000 in
set_option maxHeartbeats 20000000 in
theorem xH :joinedFacts Tryz.pinned.checked.prog 3 Tryz.f3 Rows.replicaMeetsSpec Rows.replicaMeetsRow=true:=by
 unfold joinedFacts
 repeat' (refine Ww ?_ ?_)
 all_goals (as_aux_lemma=>kernel_rfl)
theorem ym :false=Rows.replicaMeetsRow.goesBy Tryz.pinned.checked.prog:=by kernel_rfl
end Go.Proofs.YtkbhfjljieopoaaGreatDoor
