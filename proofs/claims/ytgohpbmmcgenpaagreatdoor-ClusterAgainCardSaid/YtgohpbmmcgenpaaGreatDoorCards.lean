/-
  DERIVED. GIVEN WITH THE SEED: THE CARDS: each row of YtgohpbmmcgenpaaGreatDoorRows.lean that lists a variable, with what it lists TIED to the program's text (the seventh form; the later family's looks); each row that meets fmt, with fmt's text TOLD by the authors' own Lean function (tested against real Go, not proved from fmt's source: count such statements apart). THE CARD IS WHAT COUNTS. Prove the row's statement (the work); the ties are given (YtgohpbmmcgenpaaGreatDoorTie.lean); close each card by the builder's one call (the guide's Derived/Test/ToyasCard.lean, 'card_holds'). Laid BY PROGRAM, IN A SANDBOX (cutbox-door.mjs). By AI agents, Wed Nov 11 2026. No macro, syntax, notation, axiom, sorry.
-/
import Derived.Test.YtgohpbmmcgenpaaGreatDoorRows
import GoSem.ClaimSeven
namespace Go.Proofs.YtgohpbmmcgenpaaGreatDoor
namespace Rows

/-- THE TIED CARD OF 'leatlaw24.ClusterAgain'. -/
def clusterAgainCard : Claim7 := { stood := { row := clusterAgainRow, standIns := [], harness := (true, "ae38bfb905781acf0bba12a4823ee59d26b1aae54b72c4b72d07d60f0a12b27e"), looks := false }, kinds := [], alts := [], laidByText := true, laidKinds := [.funcs, .funcs], laidTests := true, laidLooks := .later }
def ClusterAgainCardSaid : Prop := Claim7.holds Tryz.pinned (.plain (OpenSpec.ofChange clusterAgainSpec)) clusterAgainCard

/-- THE SECOND FORM's CARD OF 'leatlaw24.ClusterAgain'. -/
def clusterAgainUptoCard : Claim7 := { stood := { row := clusterAgainUptoRow, standIns := [], harness := (true, "ae38bfb905781acf0bba12a4823ee59d26b1aae54b72c4b72d07d60f0a12b27e"), looks := false }, kinds := [], alts := [], laidByText := true, laidKinds := [.funcs, .funcs], laidTests := true, laidLooks := .later }
def ClusterAgainUptoCardSaid : Prop := Claim7.holds Tryz.pinned (.plain (OpenSpec.upto clusterAgainSpec)) clusterAgainUptoCard
end Rows
end Go.Proofs.YtgohpbmmcgenpaaGreatDoor
