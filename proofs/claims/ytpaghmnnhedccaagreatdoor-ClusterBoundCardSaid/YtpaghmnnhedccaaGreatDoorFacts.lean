import Derived.JoinedOf
import Derived.SevenTiedAt
namespace Go.Proofs.YtpaghmnnhedccaaGreatDoor
set_option maxRecDepth 100000
theorem zkS {a b:Bool}(h:a=true)(k:b=true):(a&&b)=true:=by rw[h,k];rfl
end Go.Proofs.YtpaghmnnhedccaaGreatDoor
