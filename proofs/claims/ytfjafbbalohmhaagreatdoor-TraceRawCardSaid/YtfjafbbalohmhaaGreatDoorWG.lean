import Derived.Test.YtfjafbbalohmhaaGreatDoorCardL
import Derived.Test.YtfjafbbalohmhaaGreatDoorLaid2
import Derived.Test.YtfjafbbalohmhaaGreatDoorQ9
namespace Go.Proofs.YtfjafbbalohmhaaGreatDoor
set_option maxRecDepth 100000
open Go.RowKit
def w29G : Glo := fun g => match Nat.beq g 2 with | true => some (0, kindsL) | false => (match Nat.beq g 1 with | true => some (0, doingsL) | false => none)
end Go.Proofs.YtfjafbbalohmhaaGreatDoor
