/- The example of law 21, reckoned. -/
import Derived.Test.YtnmjfakibhekmaaGreatDoorLaid
namespace Go.Proofs.YtnmjfakibhekmaaGreatDoor
set_option maxRecDepth 100000
open Go.RowKit
def w21G : Glo := fun g => match Nat.beq g 2 with | true => some (0, kindsL) | false => none
theorem w21_is : isTrue (iFn ic0 jc0 Tryz.prog w21G 2000 60 9 [] ⟨.e, 0⟩) = true := by kernel_rfl
end Go.Proofs.YtnmjfakibhekmaaGreatDoor
