/- The example of law 27, reckoned. -/
import Derived.Test.YtnmjfakibhekmaaGreatDoorMm27
namespace Go.Proofs.YtnmjfakibhekmaaGreatDoor
set_option maxRecDepth 100000
open Go.RowKit
theorem w27_is : isTrue (iFn hts mI27 crcJ Tryz.prog w27G 2000 60 40 [] ⟨.e, 0⟩) = true := by kernel_rfl
theorem w27_ok {B0 : Nat} : ClOK Tryz.prog w27G B0 (icW 40) := icW_ok names hts_ok (fun _ => mI27_ok) (fun _ => crcJ_ok) w27_is
end Go.Proofs.YtnmjfakibhekmaaGreatDoor
