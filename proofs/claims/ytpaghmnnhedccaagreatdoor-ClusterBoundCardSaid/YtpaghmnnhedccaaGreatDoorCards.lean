/-
  DERIVED. GIVEN WITH THE SEED: THE CARDS: each row of YtpaghmnnhedccaaGreatDoorRows.lean that lists a variable, with what it lists TIED to the program's text (the seventh form; the later family's looks); each row that meets fmt, with fmt's text TOLD by the authors' own Lean function (tested against real Go, not proved from fmt's source: count such statements apart). THE CARD IS WHAT COUNTS. Prove the row's statement (the work); the ties are given (YtpaghmnnhedccaaGreatDoorTie.lean); close each card by the builder's one call (the guide's Derived/Test/ToyasCard.lean, 'card_holds'). Laid BY PROGRAM, IN A SANDBOX (cutbox-door.mjs). By AI agents, Wed Nov 11 2026. No macro, syntax, notation, axiom, sorry.
-/
import Derived.Test.YtpaghmnnhedccaaGreatDoorRows
import GoSem.ClaimSeven
namespace Go.Proofs.YtpaghmnnhedccaaGreatDoor
namespace Rows

/-- THE TIED CARD OF 'leatlaw24.ClusterBound'. -/
def clusterBoundCard : Claim7 := { stood := { row := clusterBoundRow, standIns := [], harness := (true, "cf0df72e314c05dddfa2a1019e01447020b7cfed582f3aa006153e8ec61038da"), looks := false }, kinds := [], alts := [], laidByText := true, laidKinds := [.funcs, .funcs], laidTests := true, laidLooks := .later }
def ClusterBoundCardSaid : Prop := Claim7.holds Tryz.pinned (.plain (OpenSpec.ofChange clusterBoundSpec)) clusterBoundCard

/-- THE TIED CARD OF 'leatlaw24.ClusterCalm'. -/
def clusterCalmCard : Claim7 := { stood := { row := clusterCalmRow, standIns := [], harness := (true, "cf0df72e314c05dddfa2a1019e01447020b7cfed582f3aa006153e8ec61038da"), looks := false }, kinds := [], alts := [], laidByText := true, laidKinds := [.funcs, .funcs], laidTests := true, laidLooks := .later }
def ClusterCalmCardSaid : Prop := Claim7.holds Tryz.pinned (.plain (OpenSpec.ofChange clusterCalmSpec)) clusterCalmCard

/-- THE SECOND FORM's CARD OF 'leatlaw24.ClusterBound'. -/
def clusterBoundUptoCard : Claim7 := { stood := { row := clusterBoundUptoRow, standIns := [], harness := (true, "cf0df72e314c05dddfa2a1019e01447020b7cfed582f3aa006153e8ec61038da"), looks := false }, kinds := [], alts := [], laidByText := true, laidKinds := [.funcs, .funcs], laidTests := true, laidLooks := .later }
def ClusterBoundUptoCardSaid : Prop := Claim7.holds Tryz.pinned (.plain (OpenSpec.upto clusterBoundSpec)) clusterBoundUptoCard

/-- THE SECOND FORM's CARD OF 'leatlaw24.ClusterCalm'. -/
def clusterCalmUptoCard : Claim7 := { stood := { row := clusterCalmUptoRow, standIns := [], harness := (true, "cf0df72e314c05dddfa2a1019e01447020b7cfed582f3aa006153e8ec61038da"), looks := false }, kinds := [], alts := [], laidByText := true, laidKinds := [.funcs, .funcs], laidTests := true, laidLooks := .later }
def ClusterCalmUptoCardSaid : Prop := Claim7.holds Tryz.pinned (.plain (OpenSpec.upto clusterCalmSpec)) clusterCalmUptoCard
end Rows
end Go.Proofs.YtpaghmnnhedccaaGreatDoor
