/-
  NARROWER THAN 'FOR EVERY INPUT', by the rows' own cells (each row's printed sentence says how): ReplicaNil: laid · DurableNil: laid · ClusterNil: laid · TraceNil: laid · DrillNil: laid · WorldNil: laid.
  DERIVED. THE GIVEN ROWS OF THIS SEAT. 6 by the template 'for every input the law returns true; each argument reads behind the call as it read before'; 0 by the template 'total and deterministic' (their statements: YtnmjfakibhekmaaGreatDoorTotals.lean).
  GIVEN WITH THE SEED: the statements are not yours to turn. If you find one false, say at which input.
  Laid BY PROGRAM, IN A SANDBOX (cutbox-rows.mjs): the forced cells as the released guide's own fill.sh prints them over the translation 0d8a8bb8a525925b… (all of the seat's roots in one cut). By AI agents, Wed Nov 11 2026. No macro, syntax, notation, axiom, sorry.
-/
import Derived.Test.YtnmjfakibhekmaaGreatDoorChecked
import GoSem.Claim
import GoSem.ClaimJoined
import GoSem.ClaimMapViews
import Derived.JoinedTies
import Derived.KernelRfl
namespace Go.Proofs.YtnmjfakibhekmaaGreatDoor
/- THE CELL 'sum', in the pinned program and in every row, IS THE sha256 OF THE DUMP (.gsa) THAT YtnmjfakibhekmaaGreatDoorProg.lean LOADS. Nothing in Lean hashes anything: it is a label: what it is worth is what the hold of that sum in a sandbox is worth. -/
noncomputable def Tryz.pinned : Pinned := { name := "ytnmjfakibhekmaagreatdoor", sum := "0d8a8bb8a525925bd507191bcde6e07a98f3f188c1da080f3390e245ac466acb", checked := Tryz.checked }
namespace Rows
def none {H : Type} : Left H := { results := [], args := [] }

/- WHAT THE LISTED PACKAGE-LEVEL VARIABLES READ AS WHEN THE CALL BEGINS. Each datum BY PROGRAM (the guide's laid-datum.mjs) off the statement by which the dump's own 'gosem.cut.vars' lays the variable. In a bare row this is a premise. The card (YtnmjfakibhekmaaGreatDoorCards.lean) ties it to the program's text. -/
def laid_leat_ledger_kinds {H : Type} : DataW H := .iface "func table" (.agg [.nil, .iface "func" (.lit (.string [40, 42, 108, 101, 97, 116, 47, 108, 101, 100, 103, 101, 114, 46, 76, 101, 100, 103, 101, 114, 41, 46, 109, 97, 107, 101, 115])), .iface "func" (.lit (.string [40, 42, 108, 101, 97, 116, 47, 108, 101, 100, 103, 101, 114, 46, 76, 101, 100, 103, 101, 114, 41, 46, 114, 97, 105, 115, 101, 115])), .iface "func" (.lit (.string [40, 42, 108, 101, 97, 116, 47, 108, 101, 100, 103, 101, 114, 46, 76, 101, 100, 103, 101, 114, 41, 46, 116, 97, 107, 101, 115])), .iface "func" (.lit (.string [40, 42, 108, 101, 97, 116, 47, 108, 101, 100, 103, 101, 114, 46, 76, 101, 100, 103, 101, 114, 41, 46, 102, 114, 101, 101, 115])), .iface "func" (.lit (.string [40, 42, 108, 101, 97, 116, 47, 108, 101, 100, 103, 101, 114, 46, 76, 101, 100, 103, 101, 114, 41, 46, 109, 111, 118, 101, 115])), .iface "func" (.lit (.string [40, 42, 108, 101, 97, 116, 47, 108, 101, 100, 103, 101, 114, 46, 76, 101, 100, 103, 101, 114, 41, 46, 106, 111, 105, 110, 115])), .iface "func" (.lit (.string [40, 42, 108, 101, 97, 116, 47, 108, 101, 100, 103, 101, 114, 46, 76, 101, 100, 103, 101, 114, 41, 46, 108, 101, 97, 118, 101, 115]))])
def laid_leat_cluster_doings {H : Type} : DataW H := .iface "func table" (.agg [.agg [.nil, .lit (.bool false)], .agg [.iface "func" (.lit (.string [40, 42, 108, 101, 97, 116, 47, 99, 108, 117, 115, 116, 101, 114, 46, 67, 108, 117, 115, 116, 101, 114, 41, 46, 97, 115, 107])), .lit (.bool false)], .agg [.iface "func" (.lit (.string [40, 42, 108, 101, 97, 116, 47, 99, 108, 117, 115, 116, 101, 114, 46, 67, 108, 117, 115, 116, 101, 114, 41, 46, 116, 105, 99, 107])), .lit (.bool false)], .agg [.iface "func" (.lit (.string [40, 42, 108, 101, 97, 116, 47, 99, 108, 117, 115, 116, 101, 114, 46, 67, 108, 117, 115, 116, 101, 114, 41, 46, 116, 105, 109, 101])), .lit (.bool true)], .agg [.iface "func" (.lit (.string [40, 42, 108, 101, 97, 116, 47, 99, 108, 117, 115, 116, 101, 114, 46, 67, 108, 117, 115, 116, 101, 114, 41, 46, 100, 101, 108, 105, 118, 101, 114])), .lit (.bool true)], .agg [.iface "func" (.lit (.string [40, 42, 108, 101, 97, 116, 47, 99, 108, 117, 115, 116, 101, 114, 46, 67, 108, 117, 115, 116, 101, 114, 41, 46, 100, 114, 111, 112])), .lit (.bool true)], .agg [.iface "func" (.lit (.string [40, 42, 108, 101, 97, 116, 47, 99, 108, 117, 115, 116, 101, 114, 46, 67, 108, 117, 115, 116, 101, 114, 41, 46, 116, 119, 105, 99, 101])), .lit (.bool true)], .agg [.iface "func" (.lit (.string [40, 42, 108, 101, 97, 116, 47, 99, 108, 117, 115, 116, 101, 114, 46, 67, 108, 117, 115, 116, 101, 114, 41, 46, 99, 117, 116])), .lit (.bool false)], .agg [.iface "func" (.lit (.string [40, 42, 108, 101, 97, 116, 47, 99, 108, 117, 115, 116, 101, 114, 46, 67, 108, 117, 115, 116, 101, 114, 41, 46, 104, 101, 97, 108])), .lit (.bool true)], .agg [.iface "func" (.lit (.string [40, 42, 108, 101, 97, 116, 47, 99, 108, 117, 115, 116, 101, 114, 46, 67, 108, 117, 115, 116, 101, 114, 41, 46, 102, 117, 115, 101])), .lit (.bool false)], .agg [.iface "func" (.lit (.string [40, 42, 108, 101, 97, 116, 47, 99, 108, 117, 115, 116, 101, 114, 46, 67, 108, 117, 115, 116, 101, 114, 41, 46, 111, 102, 102])), .lit (.bool false)], .agg [.iface "func" (.lit (.string [40, 42, 108, 101, 97, 116, 47, 99, 108, 117, 115, 116, 101, 114, 46, 67, 108, 117, 115, 116, 101, 114, 41, 46, 111, 110])), .lit (.bool false)], .agg [.iface "func" (.lit (.string [40, 42, 108, 101, 97, 116, 47, 99, 108, 117, 115, 116, 101, 114, 46, 67, 108, 117, 115, 116, 101, 114, 41, 46, 108, 101, 97, 118, 101])), .lit (.bool false)]])
def laid_leat_drill_makers {H : Type} : DataW H := .iface "func table" (.agg [.nil, .iface "func" (.lit (.string [108, 101, 97, 116, 47, 100, 114, 105, 108, 108, 46, 109, 97, 107, 101, 114, 115, 36, 49])), .iface "func" (.lit (.string [108, 101, 97, 116, 47, 100, 114, 105, 108, 108, 46, 109, 97, 107, 101, 114, 115, 36, 50])), .iface "func" (.lit (.string [108, 101, 97, 116, 47, 100, 114, 105, 108, 108, 46, 109, 97, 107, 101, 114, 115, 36, 51])), .iface "func" (.lit (.string [108, 101, 97, 116, 47, 100, 114, 105, 108, 108, 46, 109, 97, 107, 101, 114, 115, 36, 52])), .iface "func" (.lit (.string [108, 101, 97, 116, 47, 100, 114, 105, 108, 108, 46, 109, 97, 107, 101, 114, 115, 36, 53])), .iface "func" (.lit (.string [108, 101, 97, 116, 47, 100, 114, 105, 108, 108, 46, 109, 97, 107, 101, 114, 115, 36, 54])), .iface "func" (.lit (.string [108, 101, 97, 116, 47, 100, 114, 105, 108, 108, 46, 109, 97, 107, 101, 114, 115, 36, 55])), .iface "func" (.lit (.string [108, 101, 97, 116, 47, 100, 114, 105, 108, 108, 46, 109, 97, 107, 101, 114, 115, 36, 56])), .iface "func" (.lit (.string [108, 101, 97, 116, 47, 100, 114, 105, 108, 108, 46, 109, 97, 107, 101, 114, 115, 36, 57]))])

/-- 'leatlaw21.ReplicaNil': WHATEVER THE INPUT: true; the input reads as it did. -/
def replicaNilSpec : ChangeSpec := { name := "replicaNil", fn := fun _ => fun
  | [d1, d2, d3] => { results := [.lit (.bool true)], args := [d1, d2, d3] }
  | _ => none }
def replicaNilRow : OpenClaim := { program := "ytnmjfakibhekmaagreatdoor", sum := "0d8a8bb8a525925bd507191bcde6e07a98f3f188c1da080f3390e245ac466acb", func := "leat/leatlaw21.ReplicaNil", spec := "replicaNil", unfollowed := true, recurses := true, named := ["leat/ledger.kinds"], plainKeys := false, apart := false, laid := [("leat/ledger.kinds", laid_leat_ledger_kinds)] }
def ReplicaNilSaid : Prop := replicaNilRow.holds Tryz.pinned (OpenSpec.ofChange replicaNilSpec)

/-- ITS FALSE NEIGHBOUR: 'it returns false'. Refute it at one input. -/
def replicaNilWrong : ChangeSpec := { name := "replicaNil", fn := fun _ => fun
  | [d1, d2, d3] => { results := [.lit (.bool false)], args := [d1, d2, d3] }
  | _ => none }
def ReplicaNilWrongFalsely : Prop := replicaNilRow.holds Tryz.pinned (OpenSpec.ofChange replicaNilWrong)

/-- 'leatlaw22.DurableNil': WHATEVER THE INPUT: true; the input reads as it did. -/
def durableNilSpec : ChangeSpec := { name := "durableNil", fn := fun _ => fun
  | [d1, d2, d3] => { results := [.lit (.bool true)], args := [d1, d2, d3] }
  | _ => none }
def durableNilRow : OpenClaim := { program := "ytnmjfakibhekmaagreatdoor", sum := "0d8a8bb8a525925bd507191bcde6e07a98f3f188c1da080f3390e245ac466acb", func := "leat/leatlaw22.DurableNil", spec := "durableNil", unfollowed := true, recurses := true, named := ["leat/ledger.kinds"], plainKeys := false, apart := false, laid := [("leat/ledger.kinds", laid_leat_ledger_kinds)] }
def DurableNilSaid : Prop := durableNilRow.holds Tryz.pinned (OpenSpec.ofChange durableNilSpec)

/-- ITS FALSE NEIGHBOUR: 'it returns false'. Refute it at one input. -/
def durableNilWrong : ChangeSpec := { name := "durableNil", fn := fun _ => fun
  | [d1, d2, d3] => { results := [.lit (.bool false)], args := [d1, d2, d3] }
  | _ => none }
def DurableNilWrongFalsely : Prop := durableNilRow.holds Tryz.pinned (OpenSpec.ofChange durableNilWrong)

/-- 'leatlaw24.ClusterNil': WHATEVER THE INPUT: true; the input reads as it did. -/
def clusterNilSpec : ChangeSpec := { name := "clusterNil", fn := fun _ => fun
  | [d] => { results := [.lit (.bool true)], args := [d] }
  | _ => none }
def clusterNilRow : OpenClaim := { program := "ytnmjfakibhekmaagreatdoor", sum := "0d8a8bb8a525925bd507191bcde6e07a98f3f188c1da080f3390e245ac466acb", func := "leat/leatlaw24.ClusterNil", spec := "clusterNil", unfollowed := true, recurses := true, named := ["leat/ledger.kinds", "leat/cluster.doings"], plainKeys := false, apart := false, laid := [("leat/ledger.kinds", laid_leat_ledger_kinds), ("leat/cluster.doings", laid_leat_cluster_doings)] }
def ClusterNilSaid : Prop := clusterNilRow.holds Tryz.pinned (OpenSpec.ofChange clusterNilSpec)

/-- ITS FALSE NEIGHBOUR: 'it returns false'. Refute it at one input. -/
def clusterNilWrong : ChangeSpec := { name := "clusterNil", fn := fun _ => fun
  | [d] => { results := [.lit (.bool false)], args := [d] }
  | _ => none }
def ClusterNilWrongFalsely : Prop := clusterNilRow.holds Tryz.pinned (OpenSpec.ofChange clusterNilWrong)

/-- 'leatlaw29.TraceNil': WHATEVER THE INPUT: true; the input reads as it did. -/
def traceNilSpec : ChangeSpec := { name := "traceNil", fn := fun _ => fun
  | [d] => { results := [.lit (.bool true)], args := [d] }
  | _ => none }
def traceNilRow : OpenClaim := { program := "ytnmjfakibhekmaagreatdoor", sum := "0d8a8bb8a525925bd507191bcde6e07a98f3f188c1da080f3390e245ac466acb", func := "leat/leatlaw29.TraceNil", spec := "traceNil", unfollowed := true, recurses := true, named := ["leat/ledger.kinds", "leat/cluster.doings"], plainKeys := false, apart := false, laid := [("leat/ledger.kinds", laid_leat_ledger_kinds), ("leat/cluster.doings", laid_leat_cluster_doings)] }
def TraceNilSaid : Prop := traceNilRow.holds Tryz.pinned (OpenSpec.ofChange traceNilSpec)

/-- ITS FALSE NEIGHBOUR: 'it returns false'. Refute it at one input. -/
def traceNilWrong : ChangeSpec := { name := "traceNil", fn := fun _ => fun
  | [d] => { results := [.lit (.bool false)], args := [d] }
  | _ => none }
def TraceNilWrongFalsely : Prop := traceNilRow.holds Tryz.pinned (OpenSpec.ofChange traceNilWrong)

/-- 'leatlaw30.DrillNil': WHATEVER THE INPUT: true; the input reads as it did. -/
def drillNilSpec : ChangeSpec := { name := "drillNil", fn := fun _ => fun
  | [d] => { results := [.lit (.bool true)], args := [d] }
  | _ => none }
def drillNilRow : OpenClaim := { program := "ytnmjfakibhekmaagreatdoor", sum := "0d8a8bb8a525925bd507191bcde6e07a98f3f188c1da080f3390e245ac466acb", func := "leat/leatlaw30.DrillNil", spec := "drillNil", unfollowed := true, recurses := true, named := ["leat/ledger.kinds", "leat/cluster.doings", "leat/drill.makers"], plainKeys := false, apart := false, laid := [("leat/ledger.kinds", laid_leat_ledger_kinds), ("leat/cluster.doings", laid_leat_cluster_doings), ("leat/drill.makers", laid_leat_drill_makers)] }
def DrillNilSaid : Prop := drillNilRow.holds Tryz.pinned (OpenSpec.ofChange drillNilSpec)

/-- ITS FALSE NEIGHBOUR: 'it returns false'. Refute it at one input. -/
def drillNilWrong : ChangeSpec := { name := "drillNil", fn := fun _ => fun
  | [d] => { results := [.lit (.bool false)], args := [d] }
  | _ => none }
def DrillNilWrongFalsely : Prop := drillNilRow.holds Tryz.pinned (OpenSpec.ofChange drillNilWrong)

/-- 'leatlaw27.WorldNil': WHATEVER THE INPUT: true; the input reads as it did. -/
def worldNilSpec : ChangeSpec := { name := "worldNil", fn := fun _ => fun
  | [d1, d2] => { results := [.lit (.bool true)], args := [d1, d2] }
  | _ => none }
def worldNilRow : OpenClaim := { program := "ytnmjfakibhekmaagreatdoor", sum := "0d8a8bb8a525925bd507191bcde6e07a98f3f188c1da080f3390e245ac466acb", func := "leat/leatlaw27.WorldNil", spec := "worldNil", unfollowed := true, recurses := true, named := ["leat/ledger.kinds", "leat/cluster.doings"], plainKeys := false, apart := false, laid := [("leat/ledger.kinds", laid_leat_ledger_kinds), ("leat/cluster.doings", laid_leat_cluster_doings)] }
def WorldNilSaid : Prop := worldNilRow.holds Tryz.pinned (OpenSpec.ofChange worldNilSpec)

/-- ITS FALSE NEIGHBOUR: 'it returns false'. Refute it at one input. -/
def worldNilWrong : ChangeSpec := { name := "worldNil", fn := fun _ => fun
  | [d1, d2] => { results := [.lit (.bool false)], args := [d1, d2] }
  | _ => none }
def WorldNilWrongFalsely : Prop := worldNilRow.holds Tryz.pinned (OpenSpec.ofChange worldNilWrong)

/- THE SECOND FORM. 'bulk': how many values and letters a reading holds, each counted each time it is reached (what is shared counts as often as it is met; a slice's spare places count too). A statement '..UptoSaid' is the law's where the arguments, and the package variables that the reading takes, are together of bulk at most 1048576: NARROWER than '..Said'. Prove '..Said' where nothing that the law and all that it calls make is longer than what came in: it says more and counts as full. Else prove '..UptoSaid'. A law counts once. -/
mutual
def uptoBulk {H : Type} : DataW H → Nat
  | .lit (.string bytes) => bytes.length + 1
  | .lit _ => 1
  | .nil => 1
  | .ptr d => uptoBulk d + 1
  | .slice elems spare => uptoBulkAll elems + uptoBulkAll spare + 1
  | .agg parts => uptoBulkAll parts + 1
  | .iface _ d => uptoBulk d + 1
  | .map entries => uptoBulkEntries entries + 1
  | .held _ => 1
def uptoBulkAll {H : Type} : List (DataW H) → Nat
  | [] => 0
  | d :: r => uptoBulk d + uptoBulkAll r
def uptoBulkEntries {H : Type} : List (Lit × DataW H) → Nat
  | [] => 0
  | x :: r => uptoBulkEntry x + uptoBulkEntries r
def uptoBulkEntry {H : Type} : Lit × DataW H → Nat
  | (.string bytes, d) => bytes.length + uptoBulk d + 1
  | (_, d) => uptoBulk d + 1
 end
def uptoSmall : (H : Type) → List (DataW H) → Bool := fun _ ds => decide (uptoBulkAll ds ≤ 1048576)
def OpenSpec.upto (s : _root_.Go.ChangeSpec) : _root_.Go.OpenSpec := { _root_.Go.OpenSpec.ofChange s with cond := some uptoSmall }

/-- 'leatlaw21.ReplicaNil', WHERE WHAT IT READS IS OF BULK AT MOST 1048576: true; the input reads as it did. -/
def replicaNilUptoRow : OpenClaim := { program := "ytnmjfakibhekmaagreatdoor", sum := "0d8a8bb8a525925bd507191bcde6e07a98f3f188c1da080f3390e245ac466acb", func := "leat/leatlaw21.ReplicaNil", spec := "replicaNil", unfollowed := true, recurses := true, named := ["leat/ledger.kinds"], plainKeys := false, apart := false, laid := [("leat/ledger.kinds", laid_leat_ledger_kinds)], narrowed := true }
def ReplicaNilUptoSaid : Prop := replicaNilUptoRow.holds Tryz.pinned (OpenSpec.upto replicaNilSpec)

/-- 'leatlaw22.DurableNil', WHERE WHAT IT READS IS OF BULK AT MOST 1048576: true; the input reads as it did. -/
def durableNilUptoRow : OpenClaim := { program := "ytnmjfakibhekmaagreatdoor", sum := "0d8a8bb8a525925bd507191bcde6e07a98f3f188c1da080f3390e245ac466acb", func := "leat/leatlaw22.DurableNil", spec := "durableNil", unfollowed := true, recurses := true, named := ["leat/ledger.kinds"], plainKeys := false, apart := false, laid := [("leat/ledger.kinds", laid_leat_ledger_kinds)], narrowed := true }
def DurableNilUptoSaid : Prop := durableNilUptoRow.holds Tryz.pinned (OpenSpec.upto durableNilSpec)

/-- 'leatlaw24.ClusterNil', WHERE WHAT IT READS IS OF BULK AT MOST 1048576: true; the input reads as it did. -/
def clusterNilUptoRow : OpenClaim := { program := "ytnmjfakibhekmaagreatdoor", sum := "0d8a8bb8a525925bd507191bcde6e07a98f3f188c1da080f3390e245ac466acb", func := "leat/leatlaw24.ClusterNil", spec := "clusterNil", unfollowed := true, recurses := true, named := ["leat/ledger.kinds", "leat/cluster.doings"], plainKeys := false, apart := false, laid := [("leat/ledger.kinds", laid_leat_ledger_kinds), ("leat/cluster.doings", laid_leat_cluster_doings)], narrowed := true }
def ClusterNilUptoSaid : Prop := clusterNilUptoRow.holds Tryz.pinned (OpenSpec.upto clusterNilSpec)

/-- 'leatlaw29.TraceNil', WHERE WHAT IT READS IS OF BULK AT MOST 1048576: true; the input reads as it did. -/
def traceNilUptoRow : OpenClaim := { program := "ytnmjfakibhekmaagreatdoor", sum := "0d8a8bb8a525925bd507191bcde6e07a98f3f188c1da080f3390e245ac466acb", func := "leat/leatlaw29.TraceNil", spec := "traceNil", unfollowed := true, recurses := true, named := ["leat/ledger.kinds", "leat/cluster.doings"], plainKeys := false, apart := false, laid := [("leat/ledger.kinds", laid_leat_ledger_kinds), ("leat/cluster.doings", laid_leat_cluster_doings)], narrowed := true }
def TraceNilUptoSaid : Prop := traceNilUptoRow.holds Tryz.pinned (OpenSpec.upto traceNilSpec)

/-- 'leatlaw30.DrillNil', WHERE WHAT IT READS IS OF BULK AT MOST 1048576: true; the input reads as it did. -/
def drillNilUptoRow : OpenClaim := { program := "ytnmjfakibhekmaagreatdoor", sum := "0d8a8bb8a525925bd507191bcde6e07a98f3f188c1da080f3390e245ac466acb", func := "leat/leatlaw30.DrillNil", spec := "drillNil", unfollowed := true, recurses := true, named := ["leat/ledger.kinds", "leat/cluster.doings", "leat/drill.makers"], plainKeys := false, apart := false, laid := [("leat/ledger.kinds", laid_leat_ledger_kinds), ("leat/cluster.doings", laid_leat_cluster_doings), ("leat/drill.makers", laid_leat_drill_makers)], narrowed := true }
def DrillNilUptoSaid : Prop := drillNilUptoRow.holds Tryz.pinned (OpenSpec.upto drillNilSpec)

/-- 'leatlaw27.WorldNil', WHERE WHAT IT READS IS OF BULK AT MOST 1048576: true; the input reads as it did. -/
def worldNilUptoRow : OpenClaim := { program := "ytnmjfakibhekmaagreatdoor", sum := "0d8a8bb8a525925bd507191bcde6e07a98f3f188c1da080f3390e245ac466acb", func := "leat/leatlaw27.WorldNil", spec := "worldNil", unfollowed := true, recurses := true, named := ["leat/ledger.kinds", "leat/cluster.doings"], plainKeys := false, apart := false, laid := [("leat/ledger.kinds", laid_leat_ledger_kinds), ("leat/cluster.doings", laid_leat_cluster_doings)], narrowed := true }
def WorldNilUptoSaid : Prop := worldNilUptoRow.holds Tryz.pinned (OpenSpec.upto worldNilSpec)

end Rows
end Go.Proofs.YtnmjfakibhekmaaGreatDoor
