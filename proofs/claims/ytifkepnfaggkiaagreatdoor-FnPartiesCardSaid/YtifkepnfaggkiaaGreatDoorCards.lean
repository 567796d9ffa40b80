/-
  DERIVED. GIVEN WITH THE SEED: THE CARDS: each row of YtifkepnfaggkiaaGreatDoorRows.lean that lists a variable, with what it lists TIED to the program's text (the seventh form; the later family's looks); each row that meets fmt, with fmt's text TOLD by the authors' own Lean function (tested against real Go, not proved from fmt's source: count such statements apart). THE CARD IS WHAT COUNTS. Prove the row's statement (the work); the ties are given (YtifkepnfaggkiaaGreatDoorTie.lean); close each card by the builder's one call (the guide's Derived/Test/ToyasCard.lean, 'card_holds'). Laid BY PROGRAM, IN A SANDBOX (cutbox-door.mjs). By AI agents, Wed Nov 11 2026. No macro, syntax, notation, axiom, sorry.
-/
import Derived.Test.YtifkepnfaggkiaaGreatDoorRows
import GoSem.ClaimSeven
namespace Go.Proofs.YtifkepnfaggkiaaGreatDoor
namespace Rows

/-- THE TIED CARD OF 'laws.FnSecrets'. -/
def fnSecretsCard : Claim7 := { stood := { row := fnSecretsRow, standIns := [], harness := (true, "da65a8d1ff93aa7fe15e65bce9b7fbf4f9b880dabec4beff3063bb2e7056fd8e"), looks := false }, kinds := [], alts := [], laidByText := true, laidKinds := [.data, .data, .data], laidTests := true, laidLooks := .later }
def FnSecretsCardSaid : Prop := Claim7.holds Tryz.pinned (.plain (OpenSpec.ofChange fnSecretsSpec)) fnSecretsCard

/-- THE TIED CARD OF 'laws.FnParties'. -/
def fnPartiesCard : Claim7 := { stood := { row := fnPartiesRow, standIns := [], harness := (true, "da65a8d1ff93aa7fe15e65bce9b7fbf4f9b880dabec4beff3063bb2e7056fd8e"), looks := false }, kinds := [], alts := [], laidByText := true, laidKinds := [.data, .data, .data], laidTests := true, laidLooks := .later }
def FnPartiesCardSaid : Prop := Claim7.holds Tryz.pinned (.plain (OpenSpec.ofChange fnPartiesSpec)) fnPartiesCard

/-- THE SECOND FORM's CARD OF 'laws.FnSecrets'. -/
def fnSecretsUptoCard : Claim7 := { stood := { row := fnSecretsUptoRow, standIns := [], harness := (true, "da65a8d1ff93aa7fe15e65bce9b7fbf4f9b880dabec4beff3063bb2e7056fd8e"), looks := false }, kinds := [], alts := [], laidByText := true, laidKinds := [.data, .data, .data], laidTests := true, laidLooks := .later }
def FnSecretsUptoCardSaid : Prop := Claim7.holds Tryz.pinned (.plain (OpenSpec.upto fnSecretsSpec)) fnSecretsUptoCard

/-- THE SECOND FORM's CARD OF 'laws.FnParties'. -/
def fnPartiesUptoCard : Claim7 := { stood := { row := fnPartiesUptoRow, standIns := [], harness := (true, "da65a8d1ff93aa7fe15e65bce9b7fbf4f9b880dabec4beff3063bb2e7056fd8e"), looks := false }, kinds := [], alts := [], laidByText := true, laidKinds := [.data, .data, .data], laidTests := true, laidLooks := .later }
def FnPartiesUptoCardSaid : Prop := Claim7.holds Tryz.pinned (.plain (OpenSpec.upto fnPartiesSpec)) fnPartiesUptoCard
end Rows
end Go.Proofs.YtifkepnfaggkiaaGreatDoor
