/-
  DERIVED. GIVEN WITH THE SEED: THE CARDS: each row of YtfianjolmcoadaaDoorRows.lean that lists a variable, with what it lists TIED to the program's text (the seventh form; the later family's looks); each row that meets fmt, with fmt's text TOLD by the authors' own Lean function (tested against real Go, not proved from fmt's source: count such statements apart). THE CARD IS WHAT COUNTS. Prove the row's statement (the work); the ties are given (YtfianjolmcoadaaDoorTie.lean); close each card by the builder's one call (the guide's Derived/Test/ToyasCard.lean, 'card_holds'). Laid BY PROGRAM, IN A SANDBOX (cutbox-door.mjs). By AI agents, Wed Nov 11 2026. No macro, syntax, notation, axiom, sorry.
-/
import Derived.Test.YtfianjolmcoadaaDoorRows
import GoSem.ClaimSeven
namespace Go.Proofs.YtfianjolmcoadaaDoor
namespace Rows

/-- THE TIED CARD OF 'laws.FnExactNewSyncGroup'. -/
def fnExactNewSyncGroupCard : Claim7 := { stood := { row := fnExactNewSyncGroupRow, standIns := [], harness := (true, "b4b16f3e402400fb02f480471fcf8f06d07132a1a05c0b79a6cc5fa47efeba1b"), looks := false }, kinds := [], alts := [], laidByText := true, laidKinds := [.data, .data, .data], laidTests := true, laidLooks := .later }
def FnExactNewSyncGroupCardSaid : Prop := Claim7.holds Tryd.pinned (.plain (OpenSpec.ofChange fnExactNewSyncGroupSpec)) fnExactNewSyncGroupCard

/-- THE TIED CARD OF 'laws.FnExactEpochName'. -/
def fnExactEpochNameCard : Claim7 := { stood := { row := fnExactEpochNameRow, standIns := [], harness := (true, "b4b16f3e402400fb02f480471fcf8f06d07132a1a05c0b79a6cc5fa47efeba1b"), looks := false }, kinds := [], alts := [], laidByText := true, laidKinds := [.data, .data, .data], laidTests := true, laidLooks := .later }
def FnExactEpochNameCardSaid : Prop := Claim7.holds Tryd.pinned (.plain (OpenSpec.ofChange fnExactEpochNameSpec)) fnExactEpochNameCard

/-- THE SECOND FORM's CARD OF 'laws.FnExactNewSyncGroup'. -/
def fnExactNewSyncGroupUptoCard : Claim7 := { stood := { row := fnExactNewSyncGroupUptoRow, standIns := [], harness := (true, "b4b16f3e402400fb02f480471fcf8f06d07132a1a05c0b79a6cc5fa47efeba1b"), looks := false }, kinds := [], alts := [], laidByText := true, laidKinds := [.data, .data, .data], laidTests := true, laidLooks := .later }
def FnExactNewSyncGroupUptoCardSaid : Prop := Claim7.holds Tryd.pinned (.plain (OpenSpec.upto fnExactNewSyncGroupSpec)) fnExactNewSyncGroupUptoCard

/-- THE SECOND FORM's CARD OF 'laws.FnExactEpochName'. -/
def fnExactEpochNameUptoCard : Claim7 := { stood := { row := fnExactEpochNameUptoRow, standIns := [], harness := (true, "b4b16f3e402400fb02f480471fcf8f06d07132a1a05c0b79a6cc5fa47efeba1b"), looks := false }, kinds := [], alts := [], laidByText := true, laidKinds := [.data, .data, .data], laidTests := true, laidLooks := .later }
def FnExactEpochNameUptoCardSaid : Prop := Claim7.holds Tryd.pinned (.plain (OpenSpec.upto fnExactEpochNameSpec)) fnExactEpochNameUptoCard
end Rows
end Go.Proofs.YtfianjolmcoadaaDoor
