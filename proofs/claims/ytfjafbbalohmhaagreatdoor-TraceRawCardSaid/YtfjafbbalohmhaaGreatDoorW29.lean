import Derived.Test.YtfjafbbalohmhaaGreatDoorMm29
namespace Go.Proofs.YtfjafbbalohmhaaGreatDoor
set_option maxRecDepth 100000
open Go.RowKit
theorem w29_is : isTrue (iFn hts mI29 crcJ Tryz.prog w29G 2000 60 7 [] ⟨.e, 0⟩) = true := by kernel_rfl
theorem w29_ok {B0 : Nat} : ClOK Tryz.prog w29G B0 (icW 7) := icW_ok names hts_ok (fun _ => mI29_ok) (fun _ => crcJ_ok) w29_is
end Go.Proofs.YtfjafbbalohmhaaGreatDoor
