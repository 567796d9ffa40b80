/-
  DERIVED. GIVEN WITH THE SEED: THE CARDS: each row of YtifkepnfaggkiaaDoorRows.lean that lists a variable, with what it lists TIED to the program's text (the seventh form; the later family's looks); each row that meets fmt, with fmt's text TOLD by the authors' own Lean function (tested against real Go, not proved from fmt's source: count such statements apart). THE CARD IS WHAT COUNTS. Prove the row's statement (the work); the ties are given (YtifkepnfaggkiaaDoorTie.lean); close each card by the builder's one call (the guide's Derived/Test/ToyasCard.lean, 'card_holds'). Laid BY PROGRAM, IN A SANDBOX (cutbox-door.mjs). By AI agents, Wed Nov 11 2026. No macro, syntax, notation, axiom, sorry.
-/
import Derived.Test.YtifkepnfaggkiaaDoorRows
import GoSem.ClaimSeven
namespace Go.Proofs.YtifkepnfaggkiaaDoor
namespace Rows

/-- THE TIED CARD OF 'laws.FnEpochs'. -/
def fnEpochsCard : Claim7 := { stood := { row := fnEpochsRow, standIns := [], harness := (true, "71f71ec5423b1f3d03a56a17027746f47fac9551c61f78cb9e9664eca11ae0b6"), looks := false }, kinds := [], alts := [], laidByText := true, laidKinds := [.data, .data, .data], laidTests := true, laidLooks := .later }
def FnEpochsCardSaid : Prop := Claim7.holds Tryd.pinned (.plain (OpenSpec.ofChange fnEpochsSpec)) fnEpochsCard

/-- THE SECOND FORM's CARD OF 'laws.FnEpochs'. -/
def fnEpochsUptoCard : Claim7 := { stood := { row := fnEpochsUptoRow, standIns := [], harness := (true, "71f71ec5423b1f3d03a56a17027746f47fac9551c61f78cb9e9664eca11ae0b6"), looks := false }, kinds := [], alts := [], laidByText := true, laidKinds := [.data, .data, .data], laidTests := true, laidLooks := .later }
def FnEpochsUptoCardSaid : Prop := Claim7.holds Tryd.pinned (.plain (OpenSpec.upto fnEpochsSpec)) fnEpochsUptoCard
end Rows
end Go.Proofs.YtifkepnfaggkiaaDoor
