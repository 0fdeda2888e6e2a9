/- The example of law 22, reckoned. -/
import Derived.Test.YtnmjfakibhekmaaGreatDoorCardL
import Derived.Test.YtnmjfakibhekmaaGreatDoorRnC
namespace Go.Proofs.YtnmjfakibhekmaaGreatDoor
set_option maxRecDepth 100000
open Go.RowKit
def w22G : Glo := fun g => match Nat.beq g 2 with | true => some (0, kindsL) | false => none
theorem w22_is : isTrue (iFn hts crcI crcJ Tryz.prog w22G 2000 60 18 [] ⟨.e, 0⟩) = true := by kernel_rfl
theorem w22_ok {B0 : Nat} : ClOK Tryz.prog w22G B0 (icW 18) := icW_ok names hts_ok (fun _ => crcI_ok) (fun _ => crcJ_ok) w22_is
end Go.Proofs.YtnmjfakibhekmaaGreatDoor
