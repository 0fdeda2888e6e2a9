import Derived.Test.YtfjafbbalohmhaaGreatDoorQ3
import Derived.Test.YtfjafbbalohmhaaGreatDoorQ5
import Derived.Test.YtfjafbbalohmhaaGreatDoorW30
namespace Go.Proofs.YtfjafbbalohmhaaGreatDoor
set_option maxRecDepth 100000
open Go.RowKit
theorem drillSteps_law {W : World} {K : KV} (n : Int) (_hn : -9223372036854775808 ≤ n ∧ n ≤ 9223372036854775807) (kind A N : Int) (hA : 0 ≤ A ∧ A ≤ 255) (under : Int) (_hu : -9223372036854775808 ≤ under ∧ under ≤ 9223372036854775807)
    (hg : ∀ g e cs, w30G g = some (e, cs) → gbk W g cs) (h : ∀ w', Below W.heap.size W w' → K (.bool true) w') : call Tryz.prog 6 #[.int .i64 n, .agg #[.int .u8 kind, .int .u8 A, i6 N], .int .i64 under] K W := by
  have hm : mkAt W := hg 0 0 makersL rfl
  exact drillSteps_lawW (wk_of (fun _ => w30_ok) hg) hm n kind A N hA under h
end Go.Proofs.YtfjafbbalohmhaaGreatDoor
