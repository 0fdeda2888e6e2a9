/-
  DERIVED. GIVEN WITH THE SEED: THE CARDS: each row of YtkfgimlaijifaaaGreatDoorRows.lean that lists a variable, with what it lists TIED to the program's text (the seventh form; the later family's looks); each row that meets fmt, with fmt's text TOLD by the authors' own Lean function (tested against real Go, not proved from fmt's source: count such statements apart). THE CARD IS WHAT COUNTS. Prove the row's statement (the work); the ties are given (YtkfgimlaijifaaaGreatDoorTie.lean); close each card by the builder's one call (the guide's Derived/Test/ToyasCard.lean, 'card_holds'). Laid BY PROGRAM, IN A SANDBOX (cutbox-door.mjs). By AI agents, Wed Nov 11 2026. No macro, syntax, notation, axiom, sorry.
-/
import Derived.Test.YtkfgimlaijifaaaGreatDoorRows
import GoSem.ClaimSeven
namespace Go.Proofs.YtkfgimlaijifaaaGreatDoor
namespace Rows

/-- THE TIED CARD OF 'leatlaw22.DurableStays'. -/
def durableStaysCard : Claim7 := { stood := { row := durableStaysRow, standIns := [], harness := (true, "81bd9afab0d507523dad24a6500cd8400044fb39742f91b62d05f8a6aba5cae1"), looks := false }, kinds := [], alts := [], laidByText := true, laidKinds := [.funcs], laidTests := true, laidLooks := .later }
def DurableStaysCardSaid : Prop := Claim7.holds Tryz.pinned (.plain (OpenSpec.ofChange durableStaysSpec)) durableStaysCard

/-- THE TIED CARD OF 'leatlaw22.DurableCrash'. -/
def durableCrashCard : Claim7 := { stood := { row := durableCrashRow, standIns := [], harness := (true, "81bd9afab0d507523dad24a6500cd8400044fb39742f91b62d05f8a6aba5cae1"), looks := false }, kinds := [], alts := [], laidByText := true, laidKinds := [.funcs], laidTests := true, laidLooks := .later }
def DurableCrashCardSaid : Prop := Claim7.holds Tryz.pinned (.plain (OpenSpec.ofChange durableCrashSpec)) durableCrashCard

/-- THE SECOND FORM's CARD OF 'leatlaw22.DurableStays'. -/
def durableStaysUptoCard : Claim7 := { stood := { row := durableStaysUptoRow, standIns := [], harness := (true, "81bd9afab0d507523dad24a6500cd8400044fb39742f91b62d05f8a6aba5cae1"), looks := false }, kinds := [], alts := [], laidByText := true, laidKinds := [.funcs], laidTests := true, laidLooks := .later }
def DurableStaysUptoCardSaid : Prop := Claim7.holds Tryz.pinned (.plain (OpenSpec.upto durableStaysSpec)) durableStaysUptoCard

/-- THE SECOND FORM's CARD OF 'leatlaw22.DurableCrash'. -/
def durableCrashUptoCard : Claim7 := { stood := { row := durableCrashUptoRow, standIns := [], harness := (true, "81bd9afab0d507523dad24a6500cd8400044fb39742f91b62d05f8a6aba5cae1"), looks := false }, kinds := [], alts := [], laidByText := true, laidKinds := [.funcs], laidTests := true, laidLooks := .later }
def DurableCrashUptoCardSaid : Prop := Claim7.holds Tryz.pinned (.plain (OpenSpec.upto durableCrashSpec)) durableCrashUptoCard
end Rows
end Go.Proofs.YtkfgimlaijifaaaGreatDoor
