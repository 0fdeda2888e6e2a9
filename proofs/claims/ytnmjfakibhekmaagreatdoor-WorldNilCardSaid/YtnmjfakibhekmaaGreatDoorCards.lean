/-
  DERIVED. GIVEN WITH THE SEED: THE CARDS: each row of YtnmjfakibhekmaaGreatDoorRows.lean that lists a variable, with what it lists TIED to the program's text (the seventh form; the later family's looks); each row that meets fmt, with fmt's text TOLD by the authors' own Lean function (tested against real Go, not proved from fmt's source: count such statements apart). THE CARD IS WHAT COUNTS. Prove the row's statement (the work); the ties are given (YtnmjfakibhekmaaGreatDoorTie.lean); close each card by the builder's one call (the guide's Derived/Test/ToyasCard.lean, 'card_holds'). Laid BY PROGRAM, IN A SANDBOX (cutbox-door.mjs). By AI agents, Wed Nov 11 2026. No macro, syntax, notation, axiom, sorry.
-/
import Derived.Test.YtnmjfakibhekmaaGreatDoorRows
import GoSem.ClaimSeven
namespace Go.Proofs.YtnmjfakibhekmaaGreatDoor
namespace Rows

/-- THE TIED CARD OF 'leatlaw21.ReplicaNil'. -/
def replicaNilCard : Claim7 := { stood := { row := replicaNilRow, standIns := [], harness := (true, "6cd60dae0501f940047049f5c9e83b411b295a293d45c2852e0bc823ea56bbed"), looks := false }, kinds := [], alts := [], laidByText := true, laidKinds := [.funcs], laidTests := true, laidLooks := .later }
def ReplicaNilCardSaid : Prop := Claim7.holds Tryz.pinned (.plain (OpenSpec.ofChange replicaNilSpec)) replicaNilCard

/-- THE TIED CARD OF 'leatlaw22.DurableNil'. -/
def durableNilCard : Claim7 := { stood := { row := durableNilRow, standIns := [], harness := (true, "6cd60dae0501f940047049f5c9e83b411b295a293d45c2852e0bc823ea56bbed"), looks := false }, kinds := [], alts := [], laidByText := true, laidKinds := [.funcs], laidTests := true, laidLooks := .later }
def DurableNilCardSaid : Prop := Claim7.holds Tryz.pinned (.plain (OpenSpec.ofChange durableNilSpec)) durableNilCard

/-- THE TIED CARD OF 'leatlaw24.ClusterNil'. -/
def clusterNilCard : Claim7 := { stood := { row := clusterNilRow, standIns := [], harness := (true, "6cd60dae0501f940047049f5c9e83b411b295a293d45c2852e0bc823ea56bbed"), looks := false }, kinds := [], alts := [], laidByText := true, laidKinds := [.funcs, .funcs], laidTests := true, laidLooks := .later }
def ClusterNilCardSaid : Prop := Claim7.holds Tryz.pinned (.plain (OpenSpec.ofChange clusterNilSpec)) clusterNilCard

/-- THE TIED CARD OF 'leatlaw29.TraceNil'. -/
def traceNilCard : Claim7 := { stood := { row := traceNilRow, standIns := [], harness := (true, "6cd60dae0501f940047049f5c9e83b411b295a293d45c2852e0bc823ea56bbed"), looks := false }, kinds := [], alts := [], laidByText := true, laidKinds := [.funcs, .funcs], laidTests := true, laidLooks := .later }
def TraceNilCardSaid : Prop := Claim7.holds Tryz.pinned (.plain (OpenSpec.ofChange traceNilSpec)) traceNilCard

/-- THE TIED CARD OF 'leatlaw30.DrillNil'. -/
def drillNilCard : Claim7 := { stood := { row := drillNilRow, standIns := [], harness := (true, "6cd60dae0501f940047049f5c9e83b411b295a293d45c2852e0bc823ea56bbed"), looks := false }, kinds := [], alts := [], laidByText := true, laidKinds := [.funcs, .funcs, .funcs], laidTests := true, laidLooks := .later }
def DrillNilCardSaid : Prop := Claim7.holds Tryz.pinned (.plain (OpenSpec.ofChange drillNilSpec)) drillNilCard

/-- THE TIED CARD OF 'leatlaw27.WorldNil'. -/
def worldNilCard : Claim7 := { stood := { row := worldNilRow, standIns := [], harness := (true, "6cd60dae0501f940047049f5c9e83b411b295a293d45c2852e0bc823ea56bbed"), looks := false }, kinds := [], alts := [], laidByText := true, laidKinds := [.funcs, .funcs], laidTests := true, laidLooks := .later }
def WorldNilCardSaid : Prop := Claim7.holds Tryz.pinned (.plain (OpenSpec.ofChange worldNilSpec)) worldNilCard

/-- THE SECOND FORM's CARD OF 'leatlaw21.ReplicaNil'. -/
def replicaNilUptoCard : Claim7 := { stood := { row := replicaNilUptoRow, standIns := [], harness := (true, "6cd60dae0501f940047049f5c9e83b411b295a293d45c2852e0bc823ea56bbed"), looks := false }, kinds := [], alts := [], laidByText := true, laidKinds := [.funcs], laidTests := true, laidLooks := .later }
def ReplicaNilUptoCardSaid : Prop := Claim7.holds Tryz.pinned (.plain (OpenSpec.upto replicaNilSpec)) replicaNilUptoCard

/-- THE SECOND FORM's CARD OF 'leatlaw22.DurableNil'. -/
def durableNilUptoCard : Claim7 := { stood := { row := durableNilUptoRow, standIns := [], harness := (true, "6cd60dae0501f940047049f5c9e83b411b295a293d45c2852e0bc823ea56bbed"), looks := false }, kinds := [], alts := [], laidByText := true, laidKinds := [.funcs], laidTests := true, laidLooks := .later }
def DurableNilUptoCardSaid : Prop := Claim7.holds Tryz.pinned (.plain (OpenSpec.upto durableNilSpec)) durableNilUptoCard

/-- THE SECOND FORM's CARD OF 'leatlaw24.ClusterNil'. -/
def clusterNilUptoCard : Claim7 := { stood := { row := clusterNilUptoRow, standIns := [], harness := (true, "6cd60dae0501f940047049f5c9e83b411b295a293d45c2852e0bc823ea56bbed"), looks := false }, kinds := [], alts := [], laidByText := true, laidKinds := [.funcs, .funcs], laidTests := true, laidLooks := .later }
def ClusterNilUptoCardSaid : Prop := Claim7.holds Tryz.pinned (.plain (OpenSpec.upto clusterNilSpec)) clusterNilUptoCard

/-- THE SECOND FORM's CARD OF 'leatlaw29.TraceNil'. -/
def traceNilUptoCard : Claim7 := { stood := { row := traceNilUptoRow, standIns := [], harness := (true, "6cd60dae0501f940047049f5c9e83b411b295a293d45c2852e0bc823ea56bbed"), looks := false }, kinds := [], alts := [], laidByText := true, laidKinds := [.funcs, .funcs], laidTests := true, laidLooks := .later }
def TraceNilUptoCardSaid : Prop := Claim7.holds Tryz.pinned (.plain (OpenSpec.upto traceNilSpec)) traceNilUptoCard

/-- THE SECOND FORM's CARD OF 'leatlaw30.DrillNil'. -/
def drillNilUptoCard : Claim7 := { stood := { row := drillNilUptoRow, standIns := [], harness := (true, "6cd60dae0501f940047049f5c9e83b411b295a293d45c2852e0bc823ea56bbed"), looks := false }, kinds := [], alts := [], laidByText := true, laidKinds := [.funcs, .funcs, .funcs], laidTests := true, laidLooks := .later }
def DrillNilUptoCardSaid : Prop := Claim7.holds Tryz.pinned (.plain (OpenSpec.upto drillNilSpec)) drillNilUptoCard

/-- THE SECOND FORM's CARD OF 'leatlaw27.WorldNil'. -/
def worldNilUptoCard : Claim7 := { stood := { row := worldNilUptoRow, standIns := [], harness := (true, "6cd60dae0501f940047049f5c9e83b411b295a293d45c2852e0bc823ea56bbed"), looks := false }, kinds := [], alts := [], laidByText := true, laidKinds := [.funcs, .funcs], laidTests := true, laidLooks := .later }
def WorldNilUptoCardSaid : Prop := Claim7.holds Tryz.pinned (.plain (OpenSpec.upto worldNilSpec)) worldNilUptoCard
end Rows
end Go.Proofs.YtnmjfakibhekmaaGreatDoor
