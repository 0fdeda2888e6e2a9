import Derived.JoinedOf
import Derived.SevenTiedAt
namespace Go.Proofs.YtgohpbmmcgenpaaGreatDoor
set_option maxRecDepth 100000
theorem zjM {a b:Bool}(h:a=true)(k:b=true):(a&&b)=true:=by rw[h,k];rfl
end Go.Proofs.YtgohpbmmcgenpaaGreatDoor
