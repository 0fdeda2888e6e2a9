/-
  No cell of these rows narrows 'for every input' (looked for: loops, veiled, ifaces, maps, wideKeys, modest, calm, conditions, laid).
  DERIVED. THE GIVEN ROWS OF THIS SEAT. 5 by the template 'for every input the law returns true; each argument reads behind the call as it read before'; 0 by the template 'total and deterministic' (their statements: YtfgllkdmifhelaaTotals.lean).
  GIVEN WITH THE SEED: the statements are not yours to turn. If you find one false, say at which input.
  Laid BY PROGRAM, IN A SANDBOX (cutbox-rows.mjs): the forced cells as the released guide's own fill.sh prints them over the translation 42840124816fb274… (all of the seat's roots in one cut). By AI agents, Wed Nov 11 2026. No macro, syntax, notation, axiom, sorry.
-/
import Derived.Test.YtfgllkdmifhelaaChecked
import GoSem.Claim
import GoSem.ClaimJoined
import GoSem.ClaimMapViews
import Derived.JoinedTies
import Derived.KernelRfl
namespace Go.Proofs.Ytfgllkdmifhelaa
/- THE CELL 'sum', in the pinned program and in every row, IS THE sha256 OF THE DUMP (.gsa) THAT YtfgllkdmifhelaaProg.lean LOADS. Nothing in Lean hashes anything: it is a label: what it is worth is what the hold of that sum in a sandbox is worth. -/
noncomputable def Try.pinned : Pinned := { name := "ytfgllkdmifhelaa", sum := "42840124816fb2740c3c275cec505f5b45bebf10a0b7a7ad7f7fbf2c33539a38", checked := Try.checked }
namespace Rows
def none {H : Type} : Left H := { results := [], args := [] }

/-- 'leatlaw01.OctetNumbers': WHATEVER THE INPUT: true; the input reads as it did. -/
def octetNumbersSpec : ChangeSpec := { name := "octetNumbers", fn := fun _ => fun
  | [d1, d2, d3, d4] => { results := [.lit (.bool true)], args := [d1, d2, d3, d4] }
  | _ => none }
def octetNumbersRow : OpenClaim := { program := "ytfgllkdmifhelaa", sum := "42840124816fb2740c3c275cec505f5b45bebf10a0b7a7ad7f7fbf2c33539a38", func := "leat/leatlaw01.OctetNumbers", spec := "octetNumbers", apart := false }
def OctetNumbersSaid : Prop := octetNumbersRow.holds Try.pinned (OpenSpec.ofChange octetNumbersSpec)

/-- ITS FALSE NEIGHBOUR: 'it returns false'. Refute it at one input. -/
def octetNumbersWrong : ChangeSpec := { name := "octetNumbers", fn := fun _ => fun
  | [d1, d2, d3, d4] => { results := [.lit (.bool false)], args := [d1, d2, d3, d4] }
  | _ => none }
def OctetNumbersWrongFalsely : Prop := octetNumbersRow.holds Try.pinned (OpenSpec.ofChange octetNumbersWrong)

/-- 'leatlaw01.OctetOrder': WHATEVER THE INPUT: true; the input reads as it did. -/
def octetOrderSpec : ChangeSpec := { name := "octetOrder", fn := fun _ => fun
  | [d1, d2] => { results := [.lit (.bool true)], args := [d1, d2] }
  | _ => none }
def octetOrderRow : OpenClaim := { program := "ytfgllkdmifhelaa", sum := "42840124816fb2740c3c275cec505f5b45bebf10a0b7a7ad7f7fbf2c33539a38", func := "leat/leatlaw01.OctetOrder", spec := "octetOrder", apart := false }
def OctetOrderSaid : Prop := octetOrderRow.holds Try.pinned (OpenSpec.ofChange octetOrderSpec)

/-- ITS FALSE NEIGHBOUR: 'it returns false'. Refute it at one input. -/
def octetOrderWrong : ChangeSpec := { name := "octetOrder", fn := fun _ => fun
  | [d1, d2] => { results := [.lit (.bool false)], args := [d1, d2] }
  | _ => none }
def OctetOrderWrongFalsely : Prop := octetOrderRow.holds Try.pinned (OpenSpec.ofChange octetOrderWrong)

/-- 'leatlaw01.OctetStrings': WHATEVER THE INPUT: true; the input reads as it did. -/
def octetStringsSpec : ChangeSpec := { name := "octetStrings", fn := fun _ => fun
  | [d1, d2, d3, d4, d5] => { results := [.lit (.bool true)], args := [d1, d2, d3, d4, d5] }
  | _ => none }
def octetStringsRow : OpenClaim := { program := "ytfgllkdmifhelaa", sum := "42840124816fb2740c3c275cec505f5b45bebf10a0b7a7ad7f7fbf2c33539a38", func := "leat/leatlaw01.OctetStrings", spec := "octetStrings", apart := false }
def OctetStringsSaid : Prop := octetStringsRow.holds Try.pinned (OpenSpec.ofChange octetStringsSpec)

/-- ITS FALSE NEIGHBOUR: 'it returns false'. Refute it at one input. -/
def octetStringsWrong : ChangeSpec := { name := "octetStrings", fn := fun _ => fun
  | [d1, d2, d3, d4, d5] => { results := [.lit (.bool false)], args := [d1, d2, d3, d4, d5] }
  | _ => none }
def OctetStringsWrongFalsely : Prop := octetStringsRow.holds Try.pinned (OpenSpec.ofChange octetStringsWrong)

/-- 'leatlaw01.OctetBack': WHATEVER THE INPUT: true; the input reads as it did. -/
def octetBackSpec : ChangeSpec := { name := "octetBack", fn := fun _ => fun
  | [d1, d2, d3, d4, d5, d6, d7] => { results := [.lit (.bool true)], args := [d1, d2, d3, d4, d5, d6, d7] }
  | _ => none }
def octetBackRow : OpenClaim := { program := "ytfgllkdmifhelaa", sum := "42840124816fb2740c3c275cec505f5b45bebf10a0b7a7ad7f7fbf2c33539a38", func := "leat/leatlaw01.OctetBack", spec := "octetBack", apart := false }
def OctetBackSaid : Prop := octetBackRow.holds Try.pinned (OpenSpec.ofChange octetBackSpec)

/-- ITS FALSE NEIGHBOUR: 'it returns false'. Refute it at one input. -/
def octetBackWrong : ChangeSpec := { name := "octetBack", fn := fun _ => fun
  | [d1, d2, d3, d4, d5, d6, d7] => { results := [.lit (.bool false)], args := [d1, d2, d3, d4, d5, d6, d7] }
  | _ => none }
def OctetBackWrongFalsely : Prop := octetBackRow.holds Try.pinned (OpenSpec.ofChange octetBackWrong)

/-- 'leatlaw01.OctetCuttings': WHATEVER THE INPUT: true; the input reads as it did. -/
def octetCuttingsSpec : ChangeSpec := { name := "octetCuttings", fn := fun _ => fun
  | [d1, d2, d3] => { results := [.lit (.bool true)], args := [d1, d2, d3] }
  | _ => none }
def octetCuttingsRow : OpenClaim := { program := "ytfgllkdmifhelaa", sum := "42840124816fb2740c3c275cec505f5b45bebf10a0b7a7ad7f7fbf2c33539a38", func := "leat/leatlaw01.OctetCuttings", spec := "octetCuttings", apart := false }
def OctetCuttingsSaid : Prop := octetCuttingsRow.holds Try.pinned (OpenSpec.ofChange octetCuttingsSpec)

/-- ITS FALSE NEIGHBOUR: 'it returns false'. Refute it at one input. -/
def octetCuttingsWrong : ChangeSpec := { name := "octetCuttings", fn := fun _ => fun
  | [d1, d2, d3] => { results := [.lit (.bool false)], args := [d1, d2, d3] }
  | _ => none }
def OctetCuttingsWrongFalsely : Prop := octetCuttingsRow.holds Try.pinned (OpenSpec.ofChange octetCuttingsWrong)

/- THE SECOND FORM. 'bulk': how many values and letters a reading holds, each counted each time it is reached (what is shared counts as often as it is met; a slice's spare places count too). A statement '..UptoSaid' is the law's where the arguments, and the package variables that the reading takes, are together of bulk at most 1048576: NARROWER than '..Said'. Prove '..Said' where nothing that the law and all that it calls make is longer than what came in: it says more and counts as full. Else prove '..UptoSaid'. A law counts once. -/
mutual
def uptoBulk {H : Type} : DataW H → Nat
  | .lit (.string bytes) => bytes.length + 1
  | .lit _ => 1
  | .nil => 1
  | .ptr d => uptoBulk d + 1
  | .slice elems spare => uptoBulkAll elems + uptoBulkAll spare + 1
  | .agg parts => uptoBulkAll parts + 1
  | .iface _ d => uptoBulk d + 1
  | .map entries => uptoBulkEntries entries + 1
  | .held _ => 1
def uptoBulkAll {H : Type} : List (DataW H) → Nat
  | [] => 0
  | d :: r => uptoBulk d + uptoBulkAll r
def uptoBulkEntries {H : Type} : List (Lit × DataW H) → Nat
  | [] => 0
  | x :: r => uptoBulkEntry x + uptoBulkEntries r
def uptoBulkEntry {H : Type} : Lit × DataW H → Nat
  | (.string bytes, d) => bytes.length + uptoBulk d + 1
  | (_, d) => uptoBulk d + 1
 end
def uptoSmall : (H : Type) → List (DataW H) → Bool := fun _ ds => decide (uptoBulkAll ds ≤ 1048576)
def OpenSpec.upto (s : _root_.Go.ChangeSpec) : _root_.Go.OpenSpec := { _root_.Go.OpenSpec.ofChange s with cond := some uptoSmall }

/-- 'leatlaw01.OctetNumbers', WHERE WHAT IT READS IS OF BULK AT MOST 1048576: true; the input reads as it did. -/
def octetNumbersUptoRow : OpenClaim := { program := "ytfgllkdmifhelaa", sum := "42840124816fb2740c3c275cec505f5b45bebf10a0b7a7ad7f7fbf2c33539a38", func := "leat/leatlaw01.OctetNumbers", spec := "octetNumbers", apart := false, narrowed := true }
def OctetNumbersUptoSaid : Prop := octetNumbersUptoRow.holds Try.pinned (OpenSpec.upto octetNumbersSpec)

/-- 'leatlaw01.OctetOrder', WHERE WHAT IT READS IS OF BULK AT MOST 1048576: true; the input reads as it did. -/
def octetOrderUptoRow : OpenClaim := { program := "ytfgllkdmifhelaa", sum := "42840124816fb2740c3c275cec505f5b45bebf10a0b7a7ad7f7fbf2c33539a38", func := "leat/leatlaw01.OctetOrder", spec := "octetOrder", apart := false, narrowed := true }
def OctetOrderUptoSaid : Prop := octetOrderUptoRow.holds Try.pinned (OpenSpec.upto octetOrderSpec)

/-- 'leatlaw01.OctetStrings', WHERE WHAT IT READS IS OF BULK AT MOST 1048576: true; the input reads as it did. -/
def octetStringsUptoRow : OpenClaim := { program := "ytfgllkdmifhelaa", sum := "42840124816fb2740c3c275cec505f5b45bebf10a0b7a7ad7f7fbf2c33539a38", func := "leat/leatlaw01.OctetStrings", spec := "octetStrings", apart := false, narrowed := true }
def OctetStringsUptoSaid : Prop := octetStringsUptoRow.holds Try.pinned (OpenSpec.upto octetStringsSpec)

/-- 'leatlaw01.OctetBack', WHERE WHAT IT READS IS OF BULK AT MOST 1048576: true; the input reads as it did. -/
def octetBackUptoRow : OpenClaim := { program := "ytfgllkdmifhelaa", sum := "42840124816fb2740c3c275cec505f5b45bebf10a0b7a7ad7f7fbf2c33539a38", func := "leat/leatlaw01.OctetBack", spec := "octetBack", apart := false, narrowed := true }
def OctetBackUptoSaid : Prop := octetBackUptoRow.holds Try.pinned (OpenSpec.upto octetBackSpec)

/-- 'leatlaw01.OctetCuttings', WHERE WHAT IT READS IS OF BULK AT MOST 1048576: true; the input reads as it did. -/
def octetCuttingsUptoRow : OpenClaim := { program := "ytfgllkdmifhelaa", sum := "42840124816fb2740c3c275cec505f5b45bebf10a0b7a7ad7f7fbf2c33539a38", func := "leat/leatlaw01.OctetCuttings", spec := "octetCuttings", apart := false, narrowed := true }
def OctetCuttingsUptoSaid : Prop := octetCuttingsUptoRow.holds Try.pinned (OpenSpec.upto octetCuttingsSpec)

end Rows
end Go.Proofs.Ytfgllkdmifhelaa
