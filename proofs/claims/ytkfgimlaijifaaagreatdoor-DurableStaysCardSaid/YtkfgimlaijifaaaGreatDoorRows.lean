/-
  NARROWER THAN 'FOR EVERY INPUT', by the rows' own cells (each row's printed sentence says how): DurableStays: laid · DurableCrash: laid.
  DERIVED. THE GIVEN ROWS OF THIS SEAT. 2 by the template 'for every input the law returns true; each argument reads behind the call as it read before'; 0 by the template 'total and deterministic' (their statements: YtkfgimlaijifaaaGreatDoorTotals.lean).
  GIVEN WITH THE SEED: the statements are not yours to turn. If you find one false, say at which input.
  Laid BY PROGRAM, IN A SANDBOX (cutbox-rows.mjs): the forced cells as the released guide's own fill.sh prints them over the translation dce6d06278250d24… (all of the seat's roots in one cut). By AI agents, Wed Nov 11 2026. No macro, syntax, notation, axiom, sorry.
-/
import Derived.Test.YtkfgimlaijifaaaGreatDoorChecked
import GoSem.Claim
import GoSem.ClaimJoined
import GoSem.ClaimMapViews
import Derived.JoinedTies
import Derived.KernelRfl
namespace Go.Proofs.YtkfgimlaijifaaaGreatDoor
/- THE CELL 'sum', in the pinned program and in every row, IS THE sha256 OF THE DUMP (.gsa) THAT YtkfgimlaijifaaaGreatDoorProg.lean LOADS. Nothing in Lean hashes anything: it is a label: what it is worth is what the hold of that sum in a sandbox is worth. -/
noncomputable def Tryz.pinned : Pinned := { name := "ytkfgimlaijifaaagreatdoor", sum := "dce6d06278250d24beb8aa56db97bf7a3d07b8d731cdd54605322dc1e868a18f", checked := Tryz.checked }
namespace Rows
def none {H : Type} : Left H := { results := [], args := [] }

/- WHAT THE LISTED PACKAGE-LEVEL VARIABLES READ AS WHEN THE CALL BEGINS. Each datum BY PROGRAM (the guide's laid-datum.mjs) off the statement by which the dump's own 'gosem.cut.vars' lays the variable. In a bare row this is a premise. The card (YtkfgimlaijifaaaGreatDoorCards.lean) ties it to the program's text. -/
def laid_leat_ledger_kinds {H : Type} : DataW H := .iface "func table" (.agg [.nil, .iface "func" (.lit (.string [40, 42, 108, 101, 97, 116, 47, 108, 101, 100, 103, 101, 114, 46, 76, 101, 100, 103, 101, 114, 41, 46, 109, 97, 107, 101, 115])), .iface "func" (.lit (.string [40, 42, 108, 101, 97, 116, 47, 108, 101, 100, 103, 101, 114, 46, 76, 101, 100, 103, 101, 114, 41, 46, 114, 97, 105, 115, 101, 115])), .iface "func" (.lit (.string [40, 42, 108, 101, 97, 116, 47, 108, 101, 100, 103, 101, 114, 46, 76, 101, 100, 103, 101, 114, 41, 46, 116, 97, 107, 101, 115])), .iface "func" (.lit (.string [40, 42, 108, 101, 97, 116, 47, 108, 101, 100, 103, 101, 114, 46, 76, 101, 100, 103, 101, 114, 41, 46, 102, 114, 101, 101, 115])), .iface "func" (.lit (.string [40, 42, 108, 101, 97, 116, 47, 108, 101, 100, 103, 101, 114, 46, 76, 101, 100, 103, 101, 114, 41, 46, 109, 111, 118, 101, 115])), .iface "func" (.lit (.string [40, 42, 108, 101, 97, 116, 47, 108, 101, 100, 103, 101, 114, 46, 76, 101, 100, 103, 101, 114, 41, 46, 106, 111, 105, 110, 115])), .iface "func" (.lit (.string [40, 42, 108, 101, 97, 116, 47, 108, 101, 100, 103, 101, 114, 46, 76, 101, 100, 103, 101, 114, 41, 46, 108, 101, 97, 118, 101, 115]))])

/-- 'leatlaw22.DurableStays': WHATEVER THE INPUT: true; the input reads as it did. -/
def durableStaysSpec : ChangeSpec := { name := "durableStays", fn := fun _ => fun
  | [d1, d2, d3, d4] => { results := [.lit (.bool true)], args := [d1, d2, d3, d4] }
  | _ => none }
def durableStaysRow : OpenClaim := { program := "ytkfgimlaijifaaagreatdoor", sum := "dce6d06278250d24beb8aa56db97bf7a3d07b8d731cdd54605322dc1e868a18f", func := "leat/leatlaw22.DurableStays", spec := "durableStays", unfollowed := true, recurses := true, named := ["leat/ledger.kinds"], plainKeys := false, apart := false, laid := [("leat/ledger.kinds", laid_leat_ledger_kinds)] }
def DurableStaysSaid : Prop := durableStaysRow.holds Tryz.pinned (OpenSpec.ofChange durableStaysSpec)

/-- ITS FALSE NEIGHBOUR: 'it returns false'. Refute it at one input. -/
def durableStaysWrong : ChangeSpec := { name := "durableStays", fn := fun _ => fun
  | [d1, d2, d3, d4] => { results := [.lit (.bool false)], args := [d1, d2, d3, d4] }
  | _ => none }
def DurableStaysWrongFalsely : Prop := durableStaysRow.holds Tryz.pinned (OpenSpec.ofChange durableStaysWrong)

/-- 'leatlaw22.DurableCrash': WHATEVER THE INPUT: true; the input reads as it did. -/
def durableCrashSpec : ChangeSpec := { name := "durableCrash", fn := fun _ => fun
  | [d1, d2, d3] => { results := [.lit (.bool true)], args := [d1, d2, d3] }
  | _ => none }
def durableCrashRow : OpenClaim := { program := "ytkfgimlaijifaaagreatdoor", sum := "dce6d06278250d24beb8aa56db97bf7a3d07b8d731cdd54605322dc1e868a18f", func := "leat/leatlaw22.DurableCrash", spec := "durableCrash", unfollowed := true, recurses := true, named := ["leat/ledger.kinds"], plainKeys := false, apart := false, laid := [("leat/ledger.kinds", laid_leat_ledger_kinds)] }
def DurableCrashSaid : Prop := durableCrashRow.holds Tryz.pinned (OpenSpec.ofChange durableCrashSpec)

/-- ITS FALSE NEIGHBOUR: 'it returns false'. Refute it at one input. -/
def durableCrashWrong : ChangeSpec := { name := "durableCrash", fn := fun _ => fun
  | [d1, d2, d3] => { results := [.lit (.bool false)], args := [d1, d2, d3] }
  | _ => none }
def DurableCrashWrongFalsely : Prop := durableCrashRow.holds Tryz.pinned (OpenSpec.ofChange durableCrashWrong)

/- THE SECOND FORM. 'bulk': how many values and letters a reading holds, each counted each time it is reached (what is shared counts as often as it is met; a slice's spare places count too). A statement '..UptoSaid' is the law's where the arguments, and the package variables that the reading takes, are together of bulk at most 1048576: NARROWER than '..Said'. Prove '..Said' where nothing that the law and all that it calls make is longer than what came in: it says more and counts as full. Else prove '..UptoSaid'. A law counts once. -/
mutual
def uptoBulk {H : Type} : DataW H → Nat
  | .lit (.string bytes) => bytes.length + 1
  | .lit _ => 1
  | .nil => 1
  | .ptr d => uptoBulk d + 1
  | .slice elems spare => uptoBulkAll elems + uptoBulkAll spare + 1
  | .agg parts => uptoBulkAll parts + 1
  | .iface _ d => uptoBulk d + 1
  | .map entries => uptoBulkEntries entries + 1
  | .held _ => 1
def uptoBulkAll {H : Type} : List (DataW H) → Nat
  | [] => 0
  | d :: r => uptoBulk d + uptoBulkAll r
def uptoBulkEntries {H : Type} : List (Lit × DataW H) → Nat
  | [] => 0
  | x :: r => uptoBulkEntry x + uptoBulkEntries r
def uptoBulkEntry {H : Type} : Lit × DataW H → Nat
  | (.string bytes, d) => bytes.length + uptoBulk d + 1
  | (_, d) => uptoBulk d + 1
 end
def uptoSmall : (H : Type) → List (DataW H) → Bool := fun _ ds => decide (uptoBulkAll ds ≤ 1048576)
def OpenSpec.upto (s : _root_.Go.ChangeSpec) : _root_.Go.OpenSpec := { _root_.Go.OpenSpec.ofChange s with cond := some uptoSmall }

/-- 'leatlaw22.DurableStays', WHERE WHAT IT READS IS OF BULK AT MOST 1048576: true; the input reads as it did. -/
def durableStaysUptoRow : OpenClaim := { program := "ytkfgimlaijifaaagreatdoor", sum := "dce6d06278250d24beb8aa56db97bf7a3d07b8d731cdd54605322dc1e868a18f", func := "leat/leatlaw22.DurableStays", spec := "durableStays", unfollowed := true, recurses := true, named := ["leat/ledger.kinds"], plainKeys := false, apart := false, laid := [("leat/ledger.kinds", laid_leat_ledger_kinds)], narrowed := true }
def DurableStaysUptoSaid : Prop := durableStaysUptoRow.holds Tryz.pinned (OpenSpec.upto durableStaysSpec)

/-- 'leatlaw22.DurableCrash', WHERE WHAT IT READS IS OF BULK AT MOST 1048576: true; the input reads as it did. -/
def durableCrashUptoRow : OpenClaim := { program := "ytkfgimlaijifaaagreatdoor", sum := "dce6d06278250d24beb8aa56db97bf7a3d07b8d731cdd54605322dc1e868a18f", func := "leat/leatlaw22.DurableCrash", spec := "durableCrash", unfollowed := true, recurses := true, named := ["leat/ledger.kinds"], plainKeys := false, apart := false, laid := [("leat/ledger.kinds", laid_leat_ledger_kinds)], narrowed := true }
def DurableCrashUptoSaid : Prop := durableCrashUptoRow.holds Tryz.pinned (OpenSpec.upto durableCrashSpec)

end Rows
end Go.Proofs.YtkfgimlaijifaaaGreatDoor
