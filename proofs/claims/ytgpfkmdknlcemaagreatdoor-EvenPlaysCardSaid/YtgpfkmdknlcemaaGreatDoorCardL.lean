import Derived.Test.YtgpfkmdknlcemaaGreatDoorLaid
import Derived.ProofKit
import Derived.LaidMore
import Derived.Stop.Joined
namespace Go.Proofs.YtgpfkmdknlcemaaGreatDoor
set_option maxRecDepth 100000
open Go.RowKit
section
variable {P:Program} {W:World} {b:Nat} {t u:TypeId} {v:Value}
theorem All2.inv0 {α β:Type} {r:α→β→Prop} {m:List β} (h:All2 r [] m):m=[]:=by cases h; rfl
end
theorem JO:ns Tryz.prog:=by
 have h:(Tryz.prog.funcs.toList.all fun fn=>match fn.name == "runtime.NumGoroutine" with | true=>false | false=>true)=true:=by kernel_rfl
 intro f fn hf
 have hm:fn ∈ Tryz.prog.funcs.toList:=by
  have:=Array.mem_of_getElem? hf
  simpa using this
 have:=List.all_eq_true.1 h fn hm
 split at this
 ·cases this
 ·rename_i h; exact h
theorem Dj:ownKnob Tryz.prog.godebug=none:=by kernel_rfl
theorem ux:laidOutB Tryz.prog=true:=by kernel_rfl
end Go.Proofs.YtgpfkmdknlcemaaGreatDoor
