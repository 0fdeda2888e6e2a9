import Derived.Test.YtfjafbbalohmhaaGreatDoorWG
import Derived.Test.YtfjafbbalohmhaaGreatDoorLaid3
namespace Go.Proofs.YtfjafbbalohmhaaGreatDoor
set_option maxRecDepth 100000
open Go.RowKit
def w30G : Glo := fun g => match Nat.beq g 2 with | true => some (0, kindsL) | false => (match Nat.beq g 1 with | true => some (0, doingsL) | false => (match Nat.beq g 0 with | true => some (0, makersL) | false => none))
end Go.Proofs.YtfjafbbalohmhaaGreatDoor
