/- What is put is got (the law TraceBack), with its example. -/
import Derived.Test.YtfjafbbalohmhaaGreatDoorQ5
import Derived.Test.YtfjafbbalohmhaaGreatDoorQ7
import Derived.Test.YtfjafbbalohmhaaGreatDoorW29
namespace Go.Proofs.YtfjafbbalohmhaaGreatDoor
set_option maxRecDepth 100000
open Go.RowKit
theorem traceBack_law {W : World} {K : KV} (s : STP) (v : Option Addr) (c : Nat) (hw : STW s) (_hi : STI s) (hr : RN W v s.picks.length c s.picks) (hle : s.picks.length ≤ c) (hmx : c ≤ 9223372036854775807) (cut : Int) (hcut : 0 ≤ cut ∧ cut ≤ 65535)
    (hg : ∀ g e cs, w29G g = some (e, cs) → gbk W g cs) (h : ∀ w', Below W.heap.size W w' → K (.bool true) w') : call Tryz.prog 4 #[.agg (stC s (.slice v s.picks.length c)).toArray, .int .u16 cut] K W :=
  traceBack_lawW (wk_of (fun _ => w29_ok) hg) s v c hw hr hle hmx cut hcut h
end Go.Proofs.YtfjafbbalohmhaaGreatDoor
