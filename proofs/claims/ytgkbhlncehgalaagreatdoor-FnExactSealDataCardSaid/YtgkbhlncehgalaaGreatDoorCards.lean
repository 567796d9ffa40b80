/-
  DERIVED. GIVEN WITH THE SEED: THE CARDS: each row of YtgkbhlncehgalaaGreatDoorRows.lean that lists a variable, with what it lists TIED to the program's text (the seventh form; the later family's looks); each row that meets fmt, with fmt's text TOLD by the authors' own Lean function (tested against real Go, not proved from fmt's source: count such statements apart). THE CARD IS WHAT COUNTS. Prove the row's statement (the work); the ties are given (YtgkbhlncehgalaaGreatDoorTie.lean); close each card by the builder's one call (the guide's Derived/Test/ToyasCard.lean, 'card_holds'). Laid BY PROGRAM, IN A SANDBOX (cutbox-door.mjs). By AI agents, Wed Nov 11 2026. No macro, syntax, notation, axiom, sorry.
-/
import Derived.Test.YtgkbhlncehgalaaGreatDoorRows
import GoSem.ClaimSeven
namespace Go.Proofs.YtgkbhlncehgalaaGreatDoor
namespace Rows

/-- THE TIED CARD OF 'laws.FnExactSealData'. -/
def fnExactSealDataCard : Claim7 := { stood := { row := fnExactSealDataRow, standIns := [], harness := (true, "d16db241a938a847cf0e71ac0ad36760e12fa44a7d35434fc3aaade52b6158f7"), looks := false }, kinds := [], alts := [], laidByText := true, laidKinds := [.data, .data, .data], laidTests := true, laidLooks := .later }
def FnExactSealDataCardSaid : Prop := Claim7.holds Tryz.pinned (.plain (OpenSpec.ofChange fnExactSealDataSpec)) fnExactSealDataCard

/-- THE SECOND FORM's CARD OF 'laws.FnExactSealData'. -/
def fnExactSealDataUptoCard : Claim7 := { stood := { row := fnExactSealDataUptoRow, standIns := [], harness := (true, "d16db241a938a847cf0e71ac0ad36760e12fa44a7d35434fc3aaade52b6158f7"), looks := false }, kinds := [], alts := [], laidByText := true, laidKinds := [.data, .data, .data], laidTests := true, laidLooks := .later }
def FnExactSealDataUptoCardSaid : Prop := Claim7.holds Tryz.pinned (.plain (OpenSpec.upto fnExactSealDataSpec)) fnExactSealDataUptoCard
end Rows
end Go.Proofs.YtgkbhlncehgalaaGreatDoor
