/-
  DERIVED. GIVEN WITH THE SEED: THE CARDS: each row of YteebeeoimghmhaaGreatDoorRows.lean that lists a variable, with what it lists TIED to the program's text (the seventh form; the later family's looks); each row that meets fmt, with fmt's text TOLD by the authors' own Lean function (tested against real Go, not proved from fmt's source: count such statements apart). THE CARD IS WHAT COUNTS. Prove the row's statement (the work); the ties are given (YteebeeoimghmhaaGreatDoorTie.lean); close each card by the builder's one call (the guide's Derived/Test/ToyasCard.lean, 'card_holds'). Laid BY PROGRAM, IN A SANDBOX (cutbox-door.mjs). By AI agents, Wed Nov 11 2026. No macro, syntax, notation, axiom, sorry.
-/
import Derived.Test.YteebeeoimghmhaaGreatDoorRows
import GoSem.ClaimSeven
namespace Go.Proofs.YteebeeoimghmhaaGreatDoor
namespace Rows

/-- THE TIED CARD OF 'laws.FnExactSyncRound'. -/
def fnExactSyncRoundCard : Claim7 := { stood := { row := fnExactSyncRoundRow, standIns := [], harness := (true, "878b4a06dfc1672312bd81d907d0de0dc5a773bb4236db5da1cae90ebff59248"), looks := false }, kinds := [], alts := [], laidByText := true, laidKinds := [.data, .data, .data], laidTests := true, laidLooks := .later }
def FnExactSyncRoundCardSaid : Prop := Claim7.holds Tryz.pinned (.plain (OpenSpec.ofChange fnExactSyncRoundSpec)) fnExactSyncRoundCard

/-- THE TIED CARD OF 'laws.FnExactSyncRounds'. -/
def fnExactSyncRoundsCard : Claim7 := { stood := { row := fnExactSyncRoundsRow, standIns := [], harness := (true, "878b4a06dfc1672312bd81d907d0de0dc5a773bb4236db5da1cae90ebff59248"), looks := false }, kinds := [], alts := [], laidByText := true, laidKinds := [.data, .data, .data], laidTests := true, laidLooks := .later }
def FnExactSyncRoundsCardSaid : Prop := Claim7.holds Tryz.pinned (.plain (OpenSpec.ofChange fnExactSyncRoundsSpec)) fnExactSyncRoundsCard

/-- THE SECOND FORM's CARD OF 'laws.FnExactSyncRound'. -/
def fnExactSyncRoundUptoCard : Claim7 := { stood := { row := fnExactSyncRoundUptoRow, standIns := [], harness := (true, "878b4a06dfc1672312bd81d907d0de0dc5a773bb4236db5da1cae90ebff59248"), looks := false }, kinds := [], alts := [], laidByText := true, laidKinds := [.data, .data, .data], laidTests := true, laidLooks := .later }
def FnExactSyncRoundUptoCardSaid : Prop := Claim7.holds Tryz.pinned (.plain (OpenSpec.upto fnExactSyncRoundSpec)) fnExactSyncRoundUptoCard

/-- THE SECOND FORM's CARD OF 'laws.FnExactSyncRounds'. -/
def fnExactSyncRoundsUptoCard : Claim7 := { stood := { row := fnExactSyncRoundsUptoRow, standIns := [], harness := (true, "878b4a06dfc1672312bd81d907d0de0dc5a773bb4236db5da1cae90ebff59248"), looks := false }, kinds := [], alts := [], laidByText := true, laidKinds := [.data, .data, .data], laidTests := true, laidLooks := .later }
def FnExactSyncRoundsUptoCardSaid : Prop := Claim7.holds Tryz.pinned (.plain (OpenSpec.upto fnExactSyncRoundsSpec)) fnExactSyncRoundsUptoCard
end Rows
end Go.Proofs.YteebeeoimghmhaaGreatDoor
