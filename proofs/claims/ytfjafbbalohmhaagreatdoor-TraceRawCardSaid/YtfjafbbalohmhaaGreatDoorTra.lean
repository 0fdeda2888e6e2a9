import Derived.Test.YtfjafbbalohmhaaGreatDoorQ6
import Derived.Test.YtfjafbbalohmhaaGreatDoorQ8
import Derived.Test.YtfjafbbalohmhaaGreatDoorW29
namespace Go.Proofs.YtfjafbbalohmhaaGreatDoor
set_option maxRecDepth 100000
open Go.RowKit
theorem traceRaw_law {W : World} {K : KV} (ra : Option Addr) (rn rc : Nat) (rl : List UInt8) (rb : RB W ra rn rc rl) (hrle : rn ≤ rc) (hrmx : rc ≤ 9223372036854775807) (nn : Int) (hnn : 0 ≤ nn ∧ nn ≤ 255)
    (la : Option Addr) (ln lc : Nat) (L : List STP) (hL : RSP W la ln lc L) (_hlle : ln ≤ lc) (hlmx : lc ≤ 9223372036854775807) (at_ : Int) (hat : 0 ≤ at_ ∧ at_ ≤ 65535) (by_ : Int) (_hby : 0 ≤ by_ ∧ by_ ≤ 255) (kk : Int) (hkk : -9223372036854775808 ≤ kk ∧ kk ≤ 9223372036854775807)
    (hg : ∀ g e cs, w29G g = some (e, cs) → gbk W g cs) (h : ∀ w', Below W.heap.size W w' → K (.bool true) w') : call Tryz.prog 5 #[.slice ra rn rc, .int .u8 nn, .slice la ln lc, .int .u16 at_, .int .u8 by_, .int .i64 kk] K W :=
  traceRaw_lawW (wk_of (fun _ => w29_ok) hg) ra rn rc rl rb hrle hrmx nn hnn la ln lc L hL hlmx at_ hat by_ kk hkk h
end Go.Proofs.YtfjafbbalohmhaaGreatDoor
