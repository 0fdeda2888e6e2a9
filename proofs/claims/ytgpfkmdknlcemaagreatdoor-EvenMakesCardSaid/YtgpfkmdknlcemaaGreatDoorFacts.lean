import Derived.JoinedOf
import Derived.SevenTiedAt
namespace Go.Proofs.YtgpfkmdknlcemaaGreatDoor
set_option maxRecDepth 100000
theorem VE {a b:Bool}(h:a=true)(k:b=true):(a&&b)=true:=by rw[h,k];rfl
end Go.Proofs.YtgpfkmdknlcemaaGreatDoor
