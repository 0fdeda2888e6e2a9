/-
  DERIVED. GIVEN WITH THE SEED: THE CARDS: each row of YtfjafbbalohmhaaGreatDoorRows.lean that lists a variable, with what it lists TIED to the program's text (the seventh form; the later family's looks); each row that meets fmt, with fmt's text TOLD by the authors' own Lean function (tested against real Go, not proved from fmt's source: count such statements apart). THE CARD IS WHAT COUNTS. Prove the row's statement (the work); the ties are given (YtfjafbbalohmhaaGreatDoorTie.lean); close each card by the builder's one call (the guide's Derived/Test/ToyasCard.lean, 'card_holds'). Laid BY PROGRAM, IN A SANDBOX (cutbox-door.mjs). By AI agents, Wed Nov 11 2026. No macro, syntax, notation, axiom, sorry.
-/
import Derived.Test.YtfjafbbalohmhaaGreatDoorRows
import GoSem.ClaimSeven
namespace Go.Proofs.YtfjafbbalohmhaaGreatDoor
namespace Rows

/-- THE TIED CARD OF 'leatlaw29.TraceBytes'. -/
def traceBytesCard : Claim7 := { stood := { row := traceBytesRow, standIns := [], harness := (true, "8d5b8a57d041ebf6e04c9d2ebbe40b59f33ac12c04eb01c03e2fe4d1086ee7df"), looks := false }, kinds := [], alts := [], laidByText := true, laidKinds := [.funcs, .funcs], laidTests := true, laidLooks := .later }
def TraceBytesCardSaid : Prop := Claim7.holds Tryz.pinned (.plain (OpenSpec.ofChange traceBytesSpec)) traceBytesCard

/-- THE TIED CARD OF 'leatlaw29.TraceBack'. -/
def traceBackCard : Claim7 := { stood := { row := traceBackRow, standIns := [], harness := (true, "8d5b8a57d041ebf6e04c9d2ebbe40b59f33ac12c04eb01c03e2fe4d1086ee7df"), looks := false }, kinds := [], alts := [], laidByText := true, laidKinds := [.funcs, .funcs], laidTests := true, laidLooks := .later }
def TraceBackCardSaid : Prop := Claim7.holds Tryz.pinned (.plain (OpenSpec.ofChange traceBackSpec)) traceBackCard

/-- THE TIED CARD OF 'leatlaw29.TraceRaw'. -/
def traceRawCard : Claim7 := { stood := { row := traceRawRow, standIns := [], harness := (true, "8d5b8a57d041ebf6e04c9d2ebbe40b59f33ac12c04eb01c03e2fe4d1086ee7df"), looks := false }, kinds := [], alts := [], laidByText := true, laidKinds := [.funcs, .funcs], laidTests := true, laidLooks := .later }
def TraceRawCardSaid : Prop := Claim7.holds Tryz.pinned (.plain (OpenSpec.ofChange traceRawSpec)) traceRawCard

/-- THE TIED CARD OF 'leatlaw30.DrillSteps'. -/
def drillStepsCard : Claim7 := { stood := { row := drillStepsRow, standIns := [], harness := (true, "8d5b8a57d041ebf6e04c9d2ebbe40b59f33ac12c04eb01c03e2fe4d1086ee7df"), looks := false }, kinds := [], alts := [], laidByText := true, laidKinds := [.funcs, .funcs, .funcs], laidTests := true, laidLooks := .later }
def DrillStepsCardSaid : Prop := Claim7.holds Tryz.pinned (.plain (OpenSpec.ofChange drillStepsSpec)) drillStepsCard

/-- THE SECOND FORM's CARD OF 'leatlaw29.TraceBytes'. -/
def traceBytesUptoCard : Claim7 := { stood := { row := traceBytesUptoRow, standIns := [], harness := (true, "8d5b8a57d041ebf6e04c9d2ebbe40b59f33ac12c04eb01c03e2fe4d1086ee7df"), looks := false }, kinds := [], alts := [], laidByText := true, laidKinds := [.funcs, .funcs], laidTests := true, laidLooks := .later }
def TraceBytesUptoCardSaid : Prop := Claim7.holds Tryz.pinned (.plain (OpenSpec.upto traceBytesSpec)) traceBytesUptoCard

/-- THE SECOND FORM's CARD OF 'leatlaw29.TraceBack'. -/
def traceBackUptoCard : Claim7 := { stood := { row := traceBackUptoRow, standIns := [], harness := (true, "8d5b8a57d041ebf6e04c9d2ebbe40b59f33ac12c04eb01c03e2fe4d1086ee7df"), looks := false }, kinds := [], alts := [], laidByText := true, laidKinds := [.funcs, .funcs], laidTests := true, laidLooks := .later }
def TraceBackUptoCardSaid : Prop := Claim7.holds Tryz.pinned (.plain (OpenSpec.upto traceBackSpec)) traceBackUptoCard

/-- THE SECOND FORM's CARD OF 'leatlaw29.TraceRaw'. -/
def traceRawUptoCard : Claim7 := { stood := { row := traceRawUptoRow, standIns := [], harness := (true, "8d5b8a57d041ebf6e04c9d2ebbe40b59f33ac12c04eb01c03e2fe4d1086ee7df"), looks := false }, kinds := [], alts := [], laidByText := true, laidKinds := [.funcs, .funcs], laidTests := true, laidLooks := .later }
def TraceRawUptoCardSaid : Prop := Claim7.holds Tryz.pinned (.plain (OpenSpec.upto traceRawSpec)) traceRawUptoCard

/-- THE SECOND FORM's CARD OF 'leatlaw30.DrillSteps'. -/
def drillStepsUptoCard : Claim7 := { stood := { row := drillStepsUptoRow, standIns := [], harness := (true, "8d5b8a57d041ebf6e04c9d2ebbe40b59f33ac12c04eb01c03e2fe4d1086ee7df"), looks := false }, kinds := [], alts := [], laidByText := true, laidKinds := [.funcs, .funcs, .funcs], laidTests := true, laidLooks := .later }
def DrillStepsUptoCardSaid : Prop := Claim7.holds Tryz.pinned (.plain (OpenSpec.upto drillStepsSpec)) drillStepsUptoCard
end Rows
end Go.Proofs.YtfjafbbalohmhaaGreatDoor
