import Derived.Test.YtgpfkmdknlcemaaGreatDoorFacts
import Derived.Test.YtgpfkmdknlcemaaGreatDoorRows
namespace Go.Proofs.YtgpfkmdknlcemaaGreatDoor
set_option maxRecDepth 100000
set_option maxRecDepth 100000 in
set_option maxHeartbeats 20000000 in
theorem Gg :joinedFacts Tryz.pinned.checked.prog 4 Tryz.f4 Rows.evenMakesSpec Rows.evenMakesRow=true:=by
 unfold joinedFacts
 repeat' (refine VE ?_ ?_)
 all_goals (as_aux_lemma=>kernel_rfl)
theorem IP :false=Rows.evenMakesRow.goesBy Tryz.pinned.checked.prog:=by kernel_rfl
end Go.Proofs.YtgpfkmdknlcemaaGreatDoor
