/- Which steps may be, and their bytes (the law TraceBytes), with its example. -/
import Derived.Test.YtfjafbbalohmhaaGreatDoorQ5
import Derived.Test.YtfjafbbalohmhaaGreatDoorQ8
import Derived.Test.YtfjafbbalohmhaaGreatDoorW29
namespace Go.Proofs.YtfjafbbalohmhaaGreatDoor
set_option maxRecDepth 100000
open Go.RowKit
theorem traceBytes_law {W : World} {K : KV} (s : STP) (v : Option Addr) (c : Nat) (hw : STW s) (_hi : STI s) (hr : RN W v s.picks.length c s.picks) (hle : s.picks.length ≤ c) (hmx : c ≤ 9223372036854775807)
    (ra : Option Addr) (rn rc : Nat) (rl : List UInt8) (rb : RB W ra rn rc rl) (hrle : rn ≤ rc) (hrmx : rc ≤ 9223372036854775807) (at_ : Int) (hat : 0 ≤ at_ ∧ at_ ≤ 65535) (by_ : Int) (_hby : 0 ≤ by_ ∧ by_ ≤ 255)
    (hg : ∀ g e cs, w29G g = some (e, cs) → gbk W g cs) (h : ∀ w', Below W.heap.size W w' → K (.bool true) w') : call Tryz.prog 3 #[.agg (stC s (.slice v s.picks.length c)).toArray, .slice ra rn rc, .int .u16 at_, .int .u8 by_] K W :=
  traceBytes_lawW (wk_of (fun _ => w29_ok) hg) s v c hw hr hle hmx ra rn rc rl rb hrle hrmx at_ hat by_ h
end Go.Proofs.YtfjafbbalohmhaaGreatDoor
