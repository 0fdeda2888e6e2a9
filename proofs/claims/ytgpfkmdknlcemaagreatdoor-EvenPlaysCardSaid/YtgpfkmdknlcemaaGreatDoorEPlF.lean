import Derived.Test.YtgpfkmdknlcemaaGreatDoorFacts
import Derived.Test.YtgpfkmdknlcemaaGreatDoorRows
namespace Go.Proofs.YtgpfkmdknlcemaaGreatDoor
set_option maxRecDepth 100000
set_option maxRecDepth 100000 in
set_option maxHeartbeats 20000000 in
theorem vr:joinedFacts Tryz.pinned.checked.prog 3 Tryz.f3 Rows.evenPlaysSpec Rows.evenPlaysRow=true:=by
 unfold joinedFacts
 repeat' (refine K7 ?_ ?_)
 all_goals (as_aux_lemma=>kernel_rfl)
theorem yb:false=Rows.evenPlaysRow.goesBy Tryz.pinned.checked.prog:=by kernel_rfl
end Go.Proofs.YtgpfkmdknlcemaaGreatDoor
