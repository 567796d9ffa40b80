/-
  DERIVED. GIVEN WITH THE SEED: THE CARDS: each row of YtlbmlgnckclenaaGreatDoorRows.lean that lists a variable, with what it lists TIED to the program's text (the seventh form; the later family's looks); each row that meets fmt, with fmt's text TOLD by the authors' own Lean function (tested against real Go, not proved from fmt's source: count such statements apart). THE CARD IS WHAT COUNTS. Prove the row's statement (the work); the ties are given (YtlbmlgnckclenaaGreatDoorTie.lean); close each card by the builder's one call (the guide's Derived/Test/ToyasCard.lean, 'card_holds'). Laid BY PROGRAM, IN A SANDBOX (cutbox-door.mjs). By AI agents, Wed Nov 11 2026. No macro, syntax, notation, axiom, sorry.
-/
import Derived.Test.YtlbmlgnckclenaaGreatDoorRows
import GoSem.ClaimSeven
namespace Go.Proofs.YtlbmlgnckclenaaGreatDoor
namespace Rows

/-- THE TIED CARD OF 'laws.FnExactReadBy'. -/
def fnExactReadByCard : Claim7 := { stood := { row := fnExactReadByRow, standIns := [], harness := (true, "c94afd55335e6447c3c453187d3c174289f7fbbdfad2c85d7b7ce976a660e7a5"), looks := false }, kinds := [], alts := [], laidByText := true, laidKinds := [.data, .data, .data], laidTests := true, laidLooks := .later }
def FnExactReadByCardSaid : Prop := Claim7.holds Tryz.pinned (.plain (OpenSpec.ofChange fnExactReadBySpec)) fnExactReadByCard

/-- THE SECOND FORM's CARD OF 'laws.FnExactReadBy'. -/
def fnExactReadByUptoCard : Claim7 := { stood := { row := fnExactReadByUptoRow, standIns := [], harness := (true, "c94afd55335e6447c3c453187d3c174289f7fbbdfad2c85d7b7ce976a660e7a5"), looks := false }, kinds := [], alts := [], laidByText := true, laidKinds := [.data, .data, .data], laidTests := true, laidLooks := .later }
def FnExactReadByUptoCardSaid : Prop := Claim7.holds Tryz.pinned (.plain (OpenSpec.upto fnExactReadBySpec)) fnExactReadByUptoCard
end Rows
end Go.Proofs.YtlbmlgnckclenaaGreatDoor
