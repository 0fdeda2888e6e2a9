/-
  NARROWER THAN 'FOR EVERY INPUT', by the rows' own cells (each row's printed sentence says how): ClusterBound: laid · ClusterCalm: laid.
  DERIVED. THE GIVEN ROWS OF THIS SEAT. 2 by the template 'for every input the law returns true; each argument reads behind the call as it read before'; 0 by the template 'total and deterministic' (their statements: YtpaghmnnhedccaaGreatDoorTotals.lean).
  GIVEN WITH THE SEED: the statements are not yours to turn. If you find one false, say at which input.
  Laid BY PROGRAM, IN A SANDBOX (cutbox-rows.mjs): the forced cells as the released guide's own fill.sh prints them over the translation 83cc344c03a56d43… (all of the seat's roots in one cut). By AI agents, Wed Nov 11 2026. No macro, syntax, notation, axiom, sorry.
-/
import Derived.Test.YtpaghmnnhedccaaGreatDoorChecked
import GoSem.Claim
import GoSem.ClaimJoined
import GoSem.ClaimMapViews
import Derived.JoinedTies
import Derived.KernelRfl
namespace Go.Proofs.YtpaghmnnhedccaaGreatDoor
/- THE CELL 'sum', in the pinned program and in every row, IS THE sha256 OF THE DUMP (.gsa) THAT YtpaghmnnhedccaaGreatDoorProg.lean LOADS. Nothing in Lean hashes anything: it is a label: what it is worth is what the hold of that sum in a sandbox is worth. -/
noncomputable def Tryz.pinned : Pinned := { name := "ytpaghmnnhedccaagreatdoor", sum := "83cc344c03a56d43331bcda897f87b61d89c7902def970147a03fd0f638dcc25", checked := Tryz.checked }
namespace Rows
def none {H : Type} : Left H := { results := [], args := [] }

/- WHAT THE LISTED PACKAGE-LEVEL VARIABLES READ AS WHEN THE CALL BEGINS. Each datum BY PROGRAM (the guide's laid-datum.mjs) off the statement by which the dump's own 'gosem.cut.vars' lays the variable. In a bare row this is a premise. The card (YtpaghmnnhedccaaGreatDoorCards.lean) ties it to the program's text. -/
def laid_leat_ledger_kinds {H : Type} : DataW H := .iface "func table" (.agg [.nil, .iface "func" (.lit (.string [40, 42, 108, 101, 97, 116, 47, 108, 101, 100, 103, 101, 114, 46, 76, 101, 100, 103, 101, 114, 41, 46, 109, 97, 107, 101, 115])), .iface "func" (.lit (.string [40, 42, 108, 101, 97, 116, 47, 108, 101, 100, 103, 101, 114, 46, 76, 101, 100, 103, 101, 114, 41, 46, 114, 97, 105, 115, 101, 115])), .iface "func" (.lit (.string [40, 42, 108, 101, 97, 116, 47, 108, 101, 100, 103, 101, 114, 46, 76, 101, 100, 103, 101, 114, 41, 46, 116, 97, 107, 101, 115])), .iface "func" (.lit (.string [40, 42, 108, 101, 97, 116, 47, 108, 101, 100, 103, 101, 114, 46, 76, 101, 100, 103, 101, 114, 41, 46, 102, 114, 101, 101, 115])), .iface "func" (.lit (.string [40, 42, 108, 101, 97, 116, 47, 108, 101, 100, 103, 101, 114, 46, 76, 101, 100, 103, 101, 114, 41, 46, 109, 111, 118, 101, 115])), .iface "func" (.lit (.string [40, 42, 108, 101, 97, 116, 47, 108, 101, 100, 103, 101, 114, 46, 76, 101, 100, 103, 101, 114, 41, 46, 106, 111, 105, 110, 115])), .iface "func" (.lit (.string [40, 42, 108, 101, 97, 116, 47, 108, 101, 100, 103, 101, 114, 46, 76, 101, 100, 103, 101, 114, 41, 46, 108, 101, 97, 118, 101, 115]))])
def laid_leat_cluster_doings {H : Type} : DataW H := .iface "func table" (.agg [.agg [.nil, .lit (.bool false)], .agg [.iface "func" (.lit (.string [40, 42, 108, 101, 97, 116, 47, 99, 108, 117, 115, 116, 101, 114, 46, 67, 108, 117, 115, 116, 101, 114, 41, 46, 97, 115, 107])), .lit (.bool false)], .agg [.iface "func" (.lit (.string [40, 42, 108, 101, 97, 116, 47, 99, 108, 117, 115, 116, 101, 114, 46, 67, 108, 117, 115, 116, 101, 114, 41, 46, 116, 105, 99, 107])), .lit (.bool false)], .agg [.iface "func" (.lit (.string [40, 42, 108, 101, 97, 116, 47, 99, 108, 117, 115, 116, 101, 114, 46, 67, 108, 117, 115, 116, 101, 114, 41, 46, 116, 105, 109, 101])), .lit (.bool true)], .agg [.iface "func" (.lit (.string [40, 42, 108, 101, 97, 116, 47, 99, 108, 117, 115, 116, 101, 114, 46, 67, 108, 117, 115, 116, 101, 114, 41, 46, 100, 101, 108, 105, 118, 101, 114])), .lit (.bool true)], .agg [.iface "func" (.lit (.string [40, 42, 108, 101, 97, 116, 47, 99, 108, 117, 115, 116, 101, 114, 46, 67, 108, 117, 115, 116, 101, 114, 41, 46, 100, 114, 111, 112])), .lit (.bool true)], .agg [.iface "func" (.lit (.string [40, 42, 108, 101, 97, 116, 47, 99, 108, 117, 115, 116, 101, 114, 46, 67, 108, 117, 115, 116, 101, 114, 41, 46, 116, 119, 105, 99, 101])), .lit (.bool true)], .agg [.iface "func" (.lit (.string [40, 42, 108, 101, 97, 116, 47, 99, 108, 117, 115, 116, 101, 114, 46, 67, 108, 117, 115, 116, 101, 114, 41, 46, 99, 117, 116])), .lit (.bool false)], .agg [.iface "func" (.lit (.string [40, 42, 108, 101, 97, 116, 47, 99, 108, 117, 115, 116, 101, 114, 46, 67, 108, 117, 115, 116, 101, 114, 41, 46, 104, 101, 97, 108])), .lit (.bool true)], .agg [.iface "func" (.lit (.string [40, 42, 108, 101, 97, 116, 47, 99, 108, 117, 115, 116, 101, 114, 46, 67, 108, 117, 115, 116, 101, 114, 41, 46, 102, 117, 115, 101])), .lit (.bool false)], .agg [.iface "func" (.lit (.string [40, 42, 108, 101, 97, 116, 47, 99, 108, 117, 115, 116, 101, 114, 46, 67, 108, 117, 115, 116, 101, 114, 41, 46, 111, 102, 102])), .lit (.bool false)], .agg [.iface "func" (.lit (.string [40, 42, 108, 101, 97, 116, 47, 99, 108, 117, 115, 116, 101, 114, 46, 67, 108, 117, 115, 116, 101, 114, 41, 46, 111, 110])), .lit (.bool false)], .agg [.iface "func" (.lit (.string [40, 42, 108, 101, 97, 116, 47, 99, 108, 117, 115, 116, 101, 114, 46, 67, 108, 117, 115, 116, 101, 114, 41, 46, 108, 101, 97, 118, 101])), .lit (.bool false)]])

/-- 'leatlaw24.ClusterBound': WHATEVER THE INPUT: true; the input reads as it did. -/
def clusterBoundSpec : ChangeSpec := { name := "clusterBound", fn := fun _ => fun
  | [d1, d2] => { results := [.lit (.bool true)], args := [d1, d2] }
  | _ => none }
def clusterBoundRow : OpenClaim := { program := "ytpaghmnnhedccaagreatdoor", sum := "83cc344c03a56d43331bcda897f87b61d89c7902def970147a03fd0f638dcc25", func := "leat/leatlaw24.ClusterBound", spec := "clusterBound", unfollowed := true, recurses := true, named := ["leat/ledger.kinds", "leat/cluster.doings"], plainKeys := false, apart := false, laid := [("leat/ledger.kinds", laid_leat_ledger_kinds), ("leat/cluster.doings", laid_leat_cluster_doings)] }
def ClusterBoundSaid : Prop := clusterBoundRow.holds Tryz.pinned (OpenSpec.ofChange clusterBoundSpec)

/-- ITS FALSE NEIGHBOUR: 'it returns false'. Refute it at one input. -/
def clusterBoundWrong : ChangeSpec := { name := "clusterBound", fn := fun _ => fun
  | [d1, d2] => { results := [.lit (.bool false)], args := [d1, d2] }
  | _ => none }
def ClusterBoundWrongFalsely : Prop := clusterBoundRow.holds Tryz.pinned (OpenSpec.ofChange clusterBoundWrong)

/-- 'leatlaw24.ClusterCalm': WHATEVER THE INPUT: true; the input reads as it did. -/
def clusterCalmSpec : ChangeSpec := { name := "clusterCalm", fn := fun _ => fun
  | [d1, d2] => { results := [.lit (.bool true)], args := [d1, d2] }
  | _ => none }
def clusterCalmRow : OpenClaim := { program := "ytpaghmnnhedccaagreatdoor", sum := "83cc344c03a56d43331bcda897f87b61d89c7902def970147a03fd0f638dcc25", func := "leat/leatlaw24.ClusterCalm", spec := "clusterCalm", unfollowed := true, recurses := true, named := ["leat/ledger.kinds", "leat/cluster.doings"], plainKeys := false, apart := false, laid := [("leat/ledger.kinds", laid_leat_ledger_kinds), ("leat/cluster.doings", laid_leat_cluster_doings)] }
def ClusterCalmSaid : Prop := clusterCalmRow.holds Tryz.pinned (OpenSpec.ofChange clusterCalmSpec)

/-- ITS FALSE NEIGHBOUR: 'it returns false'. Refute it at one input. -/
def clusterCalmWrong : ChangeSpec := { name := "clusterCalm", fn := fun _ => fun
  | [d1, d2] => { results := [.lit (.bool false)], args := [d1, d2] }
  | _ => none }
def ClusterCalmWrongFalsely : Prop := clusterCalmRow.holds Tryz.pinned (OpenSpec.ofChange clusterCalmWrong)

/- THE SECOND FORM. 'bulk': how many values and letters a reading holds, each counted each time it is reached (what is shared counts as often as it is met; a slice's spare places count too). A statement '..UptoSaid' is the law's where the arguments, and the package variables that the reading takes, are together of bulk at most 1048576: NARROWER than '..Said'. Prove '..Said' where nothing that the law and all that it calls make is longer than what came in: it says more and counts as full. Else prove '..UptoSaid'. A law counts once. -/
mutual
def uptoBulk {H : Type} : DataW H → Nat
  | .lit (.string bytes) => bytes.length + 1
  | .lit _ => 1
  | .nil => 1
  | .ptr d => uptoBulk d + 1
  | .slice elems spare => uptoBulkAll elems + uptoBulkAll spare + 1
  | .agg parts => uptoBulkAll parts + 1
  | .iface _ d => uptoBulk d + 1
  | .map entries => uptoBulkEntries entries + 1
  | .held _ => 1
def uptoBulkAll {H : Type} : List (DataW H) → Nat
  | [] => 0
  | d :: r => uptoBulk d + uptoBulkAll r
def uptoBulkEntries {H : Type} : List (Lit × DataW H) → Nat
  | [] => 0
  | x :: r => uptoBulkEntry x + uptoBulkEntries r
def uptoBulkEntry {H : Type} : Lit × DataW H → Nat
  | (.string bytes, d) => bytes.length + uptoBulk d + 1
  | (_, d) => uptoBulk d + 1
 end
def uptoSmall : (H : Type) → List (DataW H) → Bool := fun _ ds => decide (uptoBulkAll ds ≤ 1048576)
def OpenSpec.upto (s : _root_.Go.ChangeSpec) : _root_.Go.OpenSpec := { _root_.Go.OpenSpec.ofChange s with cond := some uptoSmall }

/-- 'leatlaw24.ClusterBound', WHERE WHAT IT READS IS OF BULK AT MOST 1048576: true; the input reads as it did. -/
def clusterBoundUptoRow : OpenClaim := { program := "ytpaghmnnhedccaagreatdoor", sum := "83cc344c03a56d43331bcda897f87b61d89c7902def970147a03fd0f638dcc25", func := "leat/leatlaw24.ClusterBound", spec := "clusterBound", unfollowed := true, recurses := true, named := ["leat/ledger.kinds", "leat/cluster.doings"], plainKeys := false, apart := false, laid := [("leat/ledger.kinds", laid_leat_ledger_kinds), ("leat/cluster.doings", laid_leat_cluster_doings)], narrowed := true }
def ClusterBoundUptoSaid : Prop := clusterBoundUptoRow.holds Tryz.pinned (OpenSpec.upto clusterBoundSpec)

/-- 'leatlaw24.ClusterCalm', WHERE WHAT IT READS IS OF BULK AT MOST 1048576: true; the input reads as it did. -/
def clusterCalmUptoRow : OpenClaim := { program := "ytpaghmnnhedccaagreatdoor", sum := "83cc344c03a56d43331bcda897f87b61d89c7902def970147a03fd0f638dcc25", func := "leat/leatlaw24.ClusterCalm", spec := "clusterCalm", unfollowed := true, recurses := true, named := ["leat/ledger.kinds", "leat/cluster.doings"], plainKeys := false, apart := false, laid := [("leat/ledger.kinds", laid_leat_ledger_kinds), ("leat/cluster.doings", laid_leat_cluster_doings)], narrowed := true }
def ClusterCalmUptoSaid : Prop := clusterCalmUptoRow.holds Tryz.pinned (OpenSpec.upto clusterCalmSpec)

end Rows
end Go.Proofs.YtpaghmnnhedccaaGreatDoor
