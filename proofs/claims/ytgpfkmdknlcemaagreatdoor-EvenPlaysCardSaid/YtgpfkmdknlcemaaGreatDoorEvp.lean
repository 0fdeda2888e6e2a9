import Derived.Test.YtgpfkmdknlcemaaGreatDoorQ10
import Derived.Test.YtgpfkmdknlcemaaGreatDoorQ12
import Derived.Test.YtgpfkmdknlcemaaGreatDoorW31
namespace Go.Proofs.YtgpfkmdknlcemaaGreatDoor
set_option maxRecDepth 100000
open Go.RowKit
theorem yB {W:World} {K:KV} (n:Int) (hn:0≤n∧n≤255) (a:Option Addr) (m c:Nat) (X:List AC) (hX:AR W a m c X) (hc:m≤c) (hcm:c≤9223372036854775807) (pk:Int) (hpk:0≤pk∧pk≤255)
  (s:STA) (hs:s.nodes.length≤1000000→SK W s) (h18:(saC s)[18]? = some (.slice s.na s.nodes.length s.nc)) (node:Int) (_hnode:0≤node∧node≤18446744073709551615) (i:Int) (_hi : -9223372036854775808≤i∧i≤9223372036854775807)
  (hg:∀ g e cs,AK g=some (e,cs)→gbk W g cs) (h:∀ w',Below W.heap.size W w'→K (.bool true) w'):call Tryz.prog 3 #[.int .u8 n,.slice a m c,.int .u8 pk,.agg (saC s).toArray,.int .u64 node,.int .i64 i] K W :=
 wT (JM (fun _=>Jm) hg) hn hX hc hcm hpk hs h18 h
end Go.Proofs.YtgpfkmdknlcemaaGreatDoor
