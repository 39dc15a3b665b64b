/-
  DERIVED. GIVEN WITH THE SEED: THE CARDS: each row of YtapgojgcmlnbgaaGreatDoorRows.lean that lists a variable, with what it lists TIED to the program's text (the seventh form; the later family's looks); each row that meets fmt, with fmt's text TOLD by the authors' own Lean function (tested against real Go, not proved from fmt's source: count such statements apart). THE CARD IS WHAT COUNTS. Prove the row's statement (the work); the ties are given (YtapgojgcmlnbgaaGreatDoorTie.lean); close each card by the builder's one call (the guide's Derived/Test/ToyasCard.lean, 'card_holds'). Laid BY PROGRAM, IN A SANDBOX (cutbox-door.mjs). By AI agents, Wed Nov 11 2026. No macro, syntax, notation, axiom, sorry.
-/
import Derived.Test.YtapgojgcmlnbgaaGreatDoorRows
import GoSem.ClaimSeven
namespace Go.Proofs.YtapgojgcmlnbgaaGreatDoor
namespace Rows

/-- THE TIED CARD OF 'humpyardkeep.DriveTells'. -/
def driveTellsCard : Claim7 := { stood := { row := driveTellsRow, standIns := [], harness := (true, "64b8d45c3d3df9d4c55752bba351f4ac9593718e7429432827b31a7234d927d4"), looks := true }, kinds := [], alts := [], laidByText := true, laidKinds := [.data, .data, .data, .data, .sentinel, .sentinel, .pinned], laidTests := true, laidLooks := .later }
def DriveTellsCardSaid : Prop := Claim7.holds Tryz.pinned (.plain (OpenSpec.ofChange driveTellsSpec)) driveTellsCard

/-- THE TIED CARD OF 'humpyardkeep.DriveOn'. -/
def driveOnCard : Claim7 := { stood := { row := driveOnRow, standIns := [], harness := (true, "64b8d45c3d3df9d4c55752bba351f4ac9593718e7429432827b31a7234d927d4"), looks := true }, kinds := [], alts := [], laidByText := true, laidKinds := [.data, .data, .data, .data, .sentinel, .sentinel, .pinned], laidTests := true, laidLooks := .later }
def DriveOnCardSaid : Prop := Claim7.holds Tryz.pinned (.plain (OpenSpec.ofChange driveOnSpec)) driveOnCard

/-- THE SECOND FORM's CARD OF 'humpyardkeep.DriveTells'. -/
def driveTellsUptoCard : Claim7 := { stood := { row := driveTellsUptoRow, standIns := [], harness := (true, "64b8d45c3d3df9d4c55752bba351f4ac9593718e7429432827b31a7234d927d4"), looks := true }, kinds := [], alts := [], laidByText := true, laidKinds := [.data, .data, .data, .data, .sentinel, .sentinel, .pinned], laidTests := true, laidLooks := .later }
def DriveTellsUptoCardSaid : Prop := Claim7.holds Tryz.pinned (.plain (OpenSpec.upto driveTellsSpec)) driveTellsUptoCard

/-- THE SECOND FORM's CARD OF 'humpyardkeep.DriveOn'. -/
def driveOnUptoCard : Claim7 := { stood := { row := driveOnUptoRow, standIns := [], harness := (true, "64b8d45c3d3df9d4c55752bba351f4ac9593718e7429432827b31a7234d927d4"), looks := true }, kinds := [], alts := [], laidByText := true, laidKinds := [.data, .data, .data, .data, .sentinel, .sentinel, .pinned], laidTests := true, laidLooks := .later }
def DriveOnUptoCardSaid : Prop := Claim7.holds Tryz.pinned (.plain (OpenSpec.upto driveOnSpec)) driveOnUptoCard
end Rows
end Go.Proofs.YtapgojgcmlnbgaaGreatDoor
