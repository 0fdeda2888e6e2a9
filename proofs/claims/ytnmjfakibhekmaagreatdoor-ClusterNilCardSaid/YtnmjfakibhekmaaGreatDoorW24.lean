/- The example of law 24, reckoned. -/
import Derived.Test.YtnmjfakibhekmaaGreatDoorMm24
namespace Go.Proofs.YtnmjfakibhekmaaGreatDoor
set_option maxRecDepth 100000
open Go.RowKit
theorem w24_is : isTrue (iFn hts mI24 crcJ Tryz.prog w24G 2000 60 26 [] ⟨.e, 0⟩) = true := by kernel_rfl
theorem w24_ok {B0 : Nat} : ClOK Tryz.prog w24G B0 (icW 26) := icW_ok names hts_ok (fun _ => mI24_ok) (fun _ => crcJ_ok) w24_is
end Go.Proofs.YtnmjfakibhekmaaGreatDoor
