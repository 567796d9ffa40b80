/-
  DERIVED. GIVEN WITH THE SEED: THE CARDS: each row of YtofieohogenojaaGreatDoorRows.lean that lists a variable, with what it lists TIED to the program's text (the seventh form; the later family's looks); each row that meets fmt, with fmt's text TOLD by the authors' own Lean function (tested against real Go, not proved from fmt's source: count such statements apart). THE CARD IS WHAT COUNTS. Prove the row's statement (the work); the ties are given (YtofieohogenojaaGreatDoorTie.lean); close each card by the builder's one call (the guide's Derived/Test/ToyasCard.lean, 'card_holds'). Laid BY PROGRAM, IN A SANDBOX (cutbox-door.mjs). By AI agents, Wed Nov 11 2026. No macro, syntax, notation, axiom, sorry.
-/
import Derived.Test.YtofieohogenojaaGreatDoorRows
import GoSem.ClaimSeven
namespace Go.Proofs.YtofieohogenojaaGreatDoor
namespace Rows

/-- THE TIED CARD OF 'laws.FnExactValidSyncGroup'. -/
def fnExactValidSyncGroupCard : Claim7 := { stood := { row := fnExactValidSyncGroupRow, standIns := [], harness := (true, "a2ebb7461f17920395fbca87e8cd16c3025748165178748fc335967a98de27b7"), looks := false }, kinds := [], alts := [], laidByText := true, laidKinds := [.data, .data, .data], laidTests := true, laidLooks := .later }
def FnExactValidSyncGroupCardSaid : Prop := Claim7.holds Tryz.pinned (.plain (OpenSpec.ofChange fnExactValidSyncGroupSpec)) fnExactValidSyncGroupCard

/-- THE SECOND FORM's CARD OF 'laws.FnExactValidSyncGroup'. -/
def fnExactValidSyncGroupUptoCard : Claim7 := { stood := { row := fnExactValidSyncGroupUptoRow, standIns := [], harness := (true, "a2ebb7461f17920395fbca87e8cd16c3025748165178748fc335967a98de27b7"), looks := false }, kinds := [], alts := [], laidByText := true, laidKinds := [.data, .data, .data], laidTests := true, laidLooks := .later }
def FnExactValidSyncGroupUptoCardSaid : Prop := Claim7.holds Tryz.pinned (.plain (OpenSpec.upto fnExactValidSyncGroupSpec)) fnExactValidSyncGroupUptoCard
end Rows
end Go.Proofs.YtofieohogenojaaGreatDoor
