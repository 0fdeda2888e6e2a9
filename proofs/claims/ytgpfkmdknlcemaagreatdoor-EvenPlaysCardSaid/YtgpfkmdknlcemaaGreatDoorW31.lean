import Derived.Test.YtgpfkmdknlcemaaGreatDoorCardL
import Derived.Test.YtgpfkmdknlcemaaGreatDoorQ12
namespace Go.Proofs.YtgpfkmdknlcemaaGreatDoor
set_option maxRecDepth 100000
open Go.RowKit
def AK:Glo:=fun g=>match Nat.beq g 0 with | true=>some (0,Ep) | false=>none
theorem Jl:wH (iFn hts Am jc0 Tryz.prog AK 2000 60 6 [] ⟨.e,0⟩)=true:=by kernel_rfl
theorem Jm {B0:Nat}:gR Tryz.prog AK B0 (icW 6):=Jf JO Jp (fun _=>Eb) (fun _=>Jd) Jl
end Go.Proofs.YtgpfkmdknlcemaaGreatDoor
