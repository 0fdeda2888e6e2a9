/-
  NARROWER THAN 'FOR EVERY INPUT', by the rows' own cells (each row's printed sentence says how): EvenPlays: laid · EvenMakes: laid.
  DERIVED. THE GIVEN ROWS OF THIS SEAT. 2 by the template 'for every input the law returns true; each argument reads behind the call as it read before'; 0 by the template 'total and deterministic' (their statements: YtgpfkmdknlcemaaGreatDoorTotals.lean).
  GIVEN WITH THE SEED: the statements are not yours to turn. If you find one false, say at which input.
  Laid BY PROGRAM, IN A SANDBOX (cutbox-rows.mjs): the forced cells as the released guide's own fill.sh prints them over the translation 71f74a8228f990d4… (all of the seat's roots in one cut). By AI agents, Wed Nov 11 2026. No macro, syntax, notation, axiom, sorry.
-/
import Derived.Test.YtgpfkmdknlcemaaGreatDoorChecked
import GoSem.Claim
import GoSem.ClaimJoined
import GoSem.ClaimMapViews
import Derived.JoinedTies
import Derived.KernelRfl
namespace Go.Proofs.YtgpfkmdknlcemaaGreatDoor
/- THE CELL 'sum', in the pinned program and in every row, IS THE sha256 OF THE DUMP (.gsa) THAT YtgpfkmdknlcemaaGreatDoorProg.lean LOADS. Nothing in Lean hashes anything: it is a label: what it is worth is what the hold of that sum in a sandbox is worth. -/
noncomputable def Tryz.pinned : Pinned := { name := "ytgpfkmdknlcemaagreatdoor", sum := "71f74a8228f990d46352057ad61fd0531b3407470363b3e5d44487ec5a067140", checked := Tryz.checked }
namespace Rows
def none {H : Type} : Left H := { results := [], args := [] }

/- WHAT THE LISTED PACKAGE-LEVEL VARIABLES READ AS WHEN THE CALL BEGINS. Each datum BY PROGRAM (the guide's laid-datum.mjs) off the statement by which the dump's own 'gosem.cut.vars' lays the variable. In a bare row this is a premise. The card (YtgpfkmdknlcemaaGreatDoorCards.lean) ties it to the program's text. -/
def laid_leat_ledger_kinds {H : Type} : DataW H := .iface "func table" (.agg [.nil, .iface "func" (.lit (.string [40, 42, 108, 101, 97, 116, 47, 108, 101, 100, 103, 101, 114, 46, 76, 101, 100, 103, 101, 114, 41, 46, 109, 97, 107, 101, 115])), .iface "func" (.lit (.string [40, 42, 108, 101, 97, 116, 47, 108, 101, 100, 103, 101, 114, 46, 76, 101, 100, 103, 101, 114, 41, 46, 114, 97, 105, 115, 101, 115])), .iface "func" (.lit (.string [40, 42, 108, 101, 97, 116, 47, 108, 101, 100, 103, 101, 114, 46, 76, 101, 100, 103, 101, 114, 41, 46, 116, 97, 107, 101, 115])), .iface "func" (.lit (.string [40, 42, 108, 101, 97, 116, 47, 108, 101, 100, 103, 101, 114, 46, 76, 101, 100, 103, 101, 114, 41, 46, 102, 114, 101, 101, 115])), .iface "func" (.lit (.string [40, 42, 108, 101, 97, 116, 47, 108, 101, 100, 103, 101, 114, 46, 76, 101, 100, 103, 101, 114, 41, 46, 109, 111, 118, 101, 115])), .iface "func" (.lit (.string [40, 42, 108, 101, 97, 116, 47, 108, 101, 100, 103, 101, 114, 46, 76, 101, 100, 103, 101, 114, 41, 46, 106, 111, 105, 110, 115])), .iface "func" (.lit (.string [40, 42, 108, 101, 97, 116, 47, 108, 101, 100, 103, 101, 114, 46, 76, 101, 100, 103, 101, 114, 41, 46, 108, 101, 97, 118, 101, 115]))])

/-- 'leatlaw31.EvenPlays': WHATEVER THE INPUT: true; the input reads as it did. -/
def evenPlaysSpec : ChangeSpec := { name := "evenPlays", fn := fun _ => fun
  | [d1, d2, d3, d4, d5, d6] => { results := [.lit (.bool true)], args := [d1, d2, d3, d4, d5, d6] }
  | _ => none }
def evenPlaysRow : OpenClaim := { program := "ytgpfkmdknlcemaagreatdoor", sum := "71f74a8228f990d46352057ad61fd0531b3407470363b3e5d44487ec5a067140", func := "leat/leatlaw31.EvenPlays", spec := "evenPlays", unfollowed := true, recurses := true, named := ["leat/ledger.kinds"], plainKeys := false, apart := false, laid := [("leat/ledger.kinds", laid_leat_ledger_kinds)] }
def EvenPlaysSaid : Prop := evenPlaysRow.holds Tryz.pinned (OpenSpec.ofChange evenPlaysSpec)

/-- ITS FALSE NEIGHBOUR: 'it returns false'. Refute it at one input. -/
def evenPlaysWrong : ChangeSpec := { name := "evenPlays", fn := fun _ => fun
  | [d1, d2, d3, d4, d5, d6] => { results := [.lit (.bool false)], args := [d1, d2, d3, d4, d5, d6] }
  | _ => none }
def EvenPlaysWrongFalsely : Prop := evenPlaysRow.holds Tryz.pinned (OpenSpec.ofChange evenPlaysWrong)

/-- 'leatlaw31.EvenMakes': WHATEVER THE INPUT: true; the input reads as it did. -/
def evenMakesSpec : ChangeSpec := { name := "evenMakes", fn := fun _ => fun
  | [d1, d2, d3] => { results := [.lit (.bool true)], args := [d1, d2, d3] }
  | _ => none }
def evenMakesRow : OpenClaim := { program := "ytgpfkmdknlcemaagreatdoor", sum := "71f74a8228f990d46352057ad61fd0531b3407470363b3e5d44487ec5a067140", func := "leat/leatlaw31.EvenMakes", spec := "evenMakes", unfollowed := true, recurses := true, named := ["leat/ledger.kinds"], plainKeys := false, apart := false, laid := [("leat/ledger.kinds", laid_leat_ledger_kinds)] }
def EvenMakesSaid : Prop := evenMakesRow.holds Tryz.pinned (OpenSpec.ofChange evenMakesSpec)

/-- ITS FALSE NEIGHBOUR: 'it returns false'. Refute it at one input. -/
def evenMakesWrong : ChangeSpec := { name := "evenMakes", fn := fun _ => fun
  | [d1, d2, d3] => { results := [.lit (.bool false)], args := [d1, d2, d3] }
  | _ => none }
def EvenMakesWrongFalsely : Prop := evenMakesRow.holds Tryz.pinned (OpenSpec.ofChange evenMakesWrong)

/- THE SECOND FORM. 'bulk': how many values and letters a reading holds, each counted each time it is reached (what is shared counts as often as it is met; a slice's spare places count too). A statement '..UptoSaid' is the law's where the arguments, and the package variables that the reading takes, are together of bulk at most 1048576: NARROWER than '..Said'. Prove '..Said' where nothing that the law and all that it calls make is longer than what came in: it says more and counts as full. Else prove '..UptoSaid'. A law counts once. -/
mutual
def uptoBulk {H : Type} : DataW H → Nat
  | .lit (.string bytes) => bytes.length + 1
  | .lit _ => 1
  | .nil => 1
  | .ptr d => uptoBulk d + 1
  | .slice elems spare => uptoBulkAll elems + uptoBulkAll spare + 1
  | .agg parts => uptoBulkAll parts + 1
  | .iface _ d => uptoBulk d + 1
  | .map entries => uptoBulkEntries entries + 1
  | .held _ => 1
def uptoBulkAll {H : Type} : List (DataW H) → Nat
  | [] => 0
  | d :: r => uptoBulk d + uptoBulkAll r
def uptoBulkEntries {H : Type} : List (Lit × DataW H) → Nat
  | [] => 0
  | x :: r => uptoBulkEntry x + uptoBulkEntries r
def uptoBulkEntry {H : Type} : Lit × DataW H → Nat
  | (.string bytes, d) => bytes.length + uptoBulk d + 1
  | (_, d) => uptoBulk d + 1
 end
def uptoSmall : (H : Type) → List (DataW H) → Bool := fun _ ds => decide (uptoBulkAll ds ≤ 1048576)
def OpenSpec.upto (s : _root_.Go.ChangeSpec) : _root_.Go.OpenSpec := { _root_.Go.OpenSpec.ofChange s with cond := some uptoSmall }

/-- 'leatlaw31.EvenPlays', WHERE WHAT IT READS IS OF BULK AT MOST 1048576: true; the input reads as it did. -/
def evenPlaysUptoRow : OpenClaim := { program := "ytgpfkmdknlcemaagreatdoor", sum := "71f74a8228f990d46352057ad61fd0531b3407470363b3e5d44487ec5a067140", func := "leat/leatlaw31.EvenPlays", spec := "evenPlays", unfollowed := true, recurses := true, named := ["leat/ledger.kinds"], plainKeys := false, apart := false, laid := [("leat/ledger.kinds", laid_leat_ledger_kinds)], narrowed := true }
def EvenPlaysUptoSaid : Prop := evenPlaysUptoRow.holds Tryz.pinned (OpenSpec.upto evenPlaysSpec)

/-- 'leatlaw31.EvenMakes', WHERE WHAT IT READS IS OF BULK AT MOST 1048576: true; the input reads as it did. -/
def evenMakesUptoRow : OpenClaim := { program := "ytgpfkmdknlcemaagreatdoor", sum := "71f74a8228f990d46352057ad61fd0531b3407470363b3e5d44487ec5a067140", func := "leat/leatlaw31.EvenMakes", spec := "evenMakes", unfollowed := true, recurses := true, named := ["leat/ledger.kinds"], plainKeys := false, apart := false, laid := [("leat/ledger.kinds", laid_leat_ledger_kinds)], narrowed := true }
def EvenMakesUptoSaid : Prop := evenMakesUptoRow.holds Tryz.pinned (OpenSpec.upto evenMakesSpec)

end Rows
end Go.Proofs.YtgpfkmdknlcemaaGreatDoor
