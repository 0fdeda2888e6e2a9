import Derived.Test.YtfjafbbalohmhaaGreatDoorMm30
namespace Go.Proofs.YtfjafbbalohmhaaGreatDoor
set_option maxRecDepth 100000
open Go.RowKit
theorem w30_is : isTrue (iFn hts mI30 crcJ Tryz.prog w30G 2000 60 19 [] ⟨.e, 0⟩) = true := by kernel_rfl
theorem w30_ok {B0 : Nat} : ClOK Tryz.prog w30G B0 (icW 19) := icW_ok names hts_ok (fun _ => mI30_ok) (fun _ => crcJ_ok) w30_is
end Go.Proofs.YtfjafbbalohmhaaGreatDoor
