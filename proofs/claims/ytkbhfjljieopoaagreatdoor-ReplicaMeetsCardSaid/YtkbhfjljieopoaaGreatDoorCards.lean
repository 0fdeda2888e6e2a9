/-
  DERIVED. GIVEN WITH THE SEED: THE CARDS: each row of YtkbhfjljieopoaaGreatDoorRows.lean that lists a variable, with what it lists TIED to the program's text (the seventh form; the later family's looks); each row that meets fmt, with fmt's text TOLD by the authors' own Lean function (tested against real Go, not proved from fmt's source: count such statements apart). THE CARD IS WHAT COUNTS. Prove the row's statement (the work); the ties are given (YtkbhfjljieopoaaGreatDoorTie.lean); close each card by the builder's one call (the guide's Derived/Test/ToyasCard.lean, 'card_holds'). Laid BY PROGRAM, IN A SANDBOX (cutbox-door.mjs). By AI agents, Wed Nov 11 2026. No macro, syntax, notation, axiom, sorry.
-/
import Derived.Test.YtkbhfjljieopoaaGreatDoorRows
import GoSem.ClaimSeven
namespace Go.Proofs.YtkbhfjljieopoaaGreatDoor
namespace Rows

/-- THE TIED CARD OF 'leatlaw21.ReplicaMeets'. -/
def replicaMeetsCard : Claim7 := { stood := { row := replicaMeetsRow, standIns := [], harness := (true, "baea186d534e632af2352f68a2d7e62d4bf33a5ab3f1443adaa91daf11388dd9"), looks := false }, kinds := [], alts := [], laidByText := true, laidKinds := [.funcs], laidTests := true, laidLooks := .later }
def ReplicaMeetsCardSaid : Prop := Claim7.holds Tryz.pinned (.plain (OpenSpec.ofChange replicaMeetsSpec)) replicaMeetsCard

/-- THE TIED CARD OF 'leatlaw21.ReplicaLearns'. -/
def replicaLearnsCard : Claim7 := { stood := { row := replicaLearnsRow, standIns := [], harness := (true, "baea186d534e632af2352f68a2d7e62d4bf33a5ab3f1443adaa91daf11388dd9"), looks := false }, kinds := [], alts := [], laidByText := true, laidKinds := [.funcs], laidTests := true, laidLooks := .later }
def ReplicaLearnsCardSaid : Prop := Claim7.holds Tryz.pinned (.plain (OpenSpec.ofChange replicaLearnsSpec)) replicaLearnsCard

/-- THE SECOND FORM's CARD OF 'leatlaw21.ReplicaMeets'. -/
def replicaMeetsUptoCard : Claim7 := { stood := { row := replicaMeetsUptoRow, standIns := [], harness := (true, "baea186d534e632af2352f68a2d7e62d4bf33a5ab3f1443adaa91daf11388dd9"), looks := false }, kinds := [], alts := [], laidByText := true, laidKinds := [.funcs], laidTests := true, laidLooks := .later }
def ReplicaMeetsUptoCardSaid : Prop := Claim7.holds Tryz.pinned (.plain (OpenSpec.upto replicaMeetsSpec)) replicaMeetsUptoCard

/-- THE SECOND FORM's CARD OF 'leatlaw21.ReplicaLearns'. -/
def replicaLearnsUptoCard : Claim7 := { stood := { row := replicaLearnsUptoRow, standIns := [], harness := (true, "baea186d534e632af2352f68a2d7e62d4bf33a5ab3f1443adaa91daf11388dd9"), looks := false }, kinds := [], alts := [], laidByText := true, laidKinds := [.funcs], laidTests := true, laidLooks := .later }
def ReplicaLearnsUptoCardSaid : Prop := Claim7.holds Tryz.pinned (.plain (OpenSpec.upto replicaLearnsSpec)) replicaLearnsUptoCard
end Rows
end Go.Proofs.YtkbhfjljieopoaaGreatDoor
