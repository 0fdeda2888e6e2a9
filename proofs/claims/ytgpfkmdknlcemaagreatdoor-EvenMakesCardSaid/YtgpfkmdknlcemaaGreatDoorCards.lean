/-
  DERIVED. GIVEN WITH THE SEED: THE CARDS: each row of YtgpfkmdknlcemaaGreatDoorRows.lean that lists a variable, with what it lists TIED to the program's text (the seventh form; the later family's looks); each row that meets fmt, with fmt's text TOLD by the authors' own Lean function (tested against real Go, not proved from fmt's source: count such statements apart). THE CARD IS WHAT COUNTS. Prove the row's statement (the work); the ties are given (YtgpfkmdknlcemaaGreatDoorTie.lean); close each card by the builder's one call (the guide's Derived/Test/ToyasCard.lean, 'card_holds'). Laid BY PROGRAM, IN A SANDBOX (cutbox-door.mjs). By AI agents, Wed Nov 11 2026. No macro, syntax, notation, axiom, sorry.
-/
import Derived.Test.YtgpfkmdknlcemaaGreatDoorRows
import GoSem.ClaimSeven
namespace Go.Proofs.YtgpfkmdknlcemaaGreatDoor
namespace Rows

/-- THE TIED CARD OF 'leatlaw31.EvenPlays'. -/
def evenPlaysCard : Claim7 := { stood := { row := evenPlaysRow, standIns := [], harness := (true, "0dd4ce75a16e3a261cc0ad0a31044847fa5350dca8bc85d34146adbf54e3a97e"), looks := false }, kinds := [], alts := [], laidByText := true, laidKinds := [.funcs], laidTests := true, laidLooks := .later }
def EvenPlaysCardSaid : Prop := Claim7.holds Tryz.pinned (.plain (OpenSpec.ofChange evenPlaysSpec)) evenPlaysCard

/-- THE TIED CARD OF 'leatlaw31.EvenMakes'. -/
def evenMakesCard : Claim7 := { stood := { row := evenMakesRow, standIns := [], harness := (true, "0dd4ce75a16e3a261cc0ad0a31044847fa5350dca8bc85d34146adbf54e3a97e"), looks := false }, kinds := [], alts := [], laidByText := true, laidKinds := [.funcs], laidTests := true, laidLooks := .later }
def EvenMakesCardSaid : Prop := Claim7.holds Tryz.pinned (.plain (OpenSpec.ofChange evenMakesSpec)) evenMakesCard

/-- THE SECOND FORM's CARD OF 'leatlaw31.EvenPlays'. -/
def evenPlaysUptoCard : Claim7 := { stood := { row := evenPlaysUptoRow, standIns := [], harness := (true, "0dd4ce75a16e3a261cc0ad0a31044847fa5350dca8bc85d34146adbf54e3a97e"), looks := false }, kinds := [], alts := [], laidByText := true, laidKinds := [.funcs], laidTests := true, laidLooks := .later }
def EvenPlaysUptoCardSaid : Prop := Claim7.holds Tryz.pinned (.plain (OpenSpec.upto evenPlaysSpec)) evenPlaysUptoCard

/-- THE SECOND FORM's CARD OF 'leatlaw31.EvenMakes'. -/
def evenMakesUptoCard : Claim7 := { stood := { row := evenMakesUptoRow, standIns := [], harness := (true, "0dd4ce75a16e3a261cc0ad0a31044847fa5350dca8bc85d34146adbf54e3a97e"), looks := false }, kinds := [], alts := [], laidByText := true, laidKinds := [.funcs], laidTests := true, laidLooks := .later }
def EvenMakesUptoCardSaid : Prop := Claim7.holds Tryz.pinned (.plain (OpenSpec.upto evenMakesSpec)) evenMakesUptoCard
end Rows
end Go.Proofs.YtgpfkmdknlcemaaGreatDoor
