import Derived.Test.YtkfgimlaijifaaaGreatDoorFacts
import Derived.Test.YtkfgimlaijifaaaGreatDoorRows
namespace Go.Proofs.YtkfgimlaijifaaaGreatDoor
set_option maxRecDepth 100000
set_option maxRecDepth 100000 in
set_option maxHeartbeats 20000000 in
theorem K8 :joinedFacts Tryz.pinned.checked.prog 3 Tryz.f3 Rows.durableStaysSpec Rows.durableStaysRow=true:=by
 unfold joinedFacts
 repeat' (refine zf4 ?_ ?_)
 all_goals (as_aux_lemma=>kernel_rfl)
theorem MQ :false=Rows.durableStaysRow.goesBy Tryz.pinned.checked.prog:=by kernel_rfl
end Go.Proofs.YtkfgimlaijifaaaGreatDoor
