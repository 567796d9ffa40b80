/-
  DERIVED. GIVEN WITH THE SEED: THE CARDS: each row of YtfianjolmcoadaaGreatDoorRows.lean that lists a variable, with what it lists TIED to the program's text (the seventh form; the later family's looks); each row that meets fmt, with fmt's text TOLD by the authors' own Lean function (tested against real Go, not proved from fmt's source: count such statements apart). THE CARD IS WHAT COUNTS. Prove the row's statement (the work); the ties are given (YtfianjolmcoadaaGreatDoorTie.lean); close each card by the builder's one call (the guide's Derived/Test/ToyasCard.lean, 'card_holds'). Laid BY PROGRAM, IN A SANDBOX (cutbox-door.mjs). By AI agents, Wed Nov 11 2026. No macro, syntax, notation, axiom, sorry.
-/
import Derived.Test.YtfianjolmcoadaaGreatDoorRows
import GoSem.ClaimSeven
namespace Go.Proofs.YtfianjolmcoadaaGreatDoor
namespace Rows

/-- THE TIED CARD OF 'laws.FnExactReadBy'. -/
def fnExactReadByCard : Claim7 := { stood := { row := fnExactReadByRow, standIns := [], harness := (true, "bf8a38356f4adcdb59051b88e6cb5795d5e22aa8500c8b56d7a3378cbde5020f"), looks := false }, kinds := [], alts := [], laidByText := true, laidKinds := [.data, .data, .data], laidTests := true, laidLooks := .later }
def FnExactReadByCardSaid : Prop := Claim7.holds Tryz.pinned (.plain (OpenSpec.ofChange fnExactReadBySpec)) fnExactReadByCard

/-- THE TIED CARD OF 'laws.FnExactFormatCounters'. -/
def fnExactFormatCountersCard : Claim7 := { stood := { row := fnExactFormatCountersRow, standIns := [], harness := (true, "bf8a38356f4adcdb59051b88e6cb5795d5e22aa8500c8b56d7a3378cbde5020f"), looks := false }, kinds := [], alts := [], laidByText := true, laidKinds := [.data, .data, .data], laidTests := true, laidLooks := .later }
def FnExactFormatCountersCardSaid : Prop := Claim7.holds Tryz.pinned (.plain (OpenSpec.ofChange fnExactFormatCountersSpec)) fnExactFormatCountersCard

/-- THE TIED CARD OF 'laws.FnExactFormatConsumers'. -/
def fnExactFormatConsumersCard : Claim7 := { stood := { row := fnExactFormatConsumersRow, standIns := [], harness := (true, "bf8a38356f4adcdb59051b88e6cb5795d5e22aa8500c8b56d7a3378cbde5020f"), looks := false }, kinds := [], alts := [], laidByText := true, laidKinds := [.data, .data, .data], laidTests := true, laidLooks := .later }
def FnExactFormatConsumersCardSaid : Prop := Claim7.holds Tryz.pinned (.plain (OpenSpec.ofChange fnExactFormatConsumersSpec)) fnExactFormatConsumersCard

/-- THE TIED CARD OF 'laws.FnExactFormatInFlight'. -/
def fnExactFormatInFlightCard : Claim7 := { stood := { row := fnExactFormatInFlightRow, standIns := [], harness := (true, "bf8a38356f4adcdb59051b88e6cb5795d5e22aa8500c8b56d7a3378cbde5020f"), looks := false }, kinds := [], alts := [], laidByText := true, laidKinds := [.data, .data, .data], laidTests := true, laidLooks := .later }
def FnExactFormatInFlightCardSaid : Prop := Claim7.holds Tryz.pinned (.plain (OpenSpec.ofChange fnExactFormatInFlightSpec)) fnExactFormatInFlightCard

/-- THE SECOND FORM's CARD OF 'laws.FnExactReadBy'. -/
def fnExactReadByUptoCard : Claim7 := { stood := { row := fnExactReadByUptoRow, standIns := [], harness := (true, "bf8a38356f4adcdb59051b88e6cb5795d5e22aa8500c8b56d7a3378cbde5020f"), looks := false }, kinds := [], alts := [], laidByText := true, laidKinds := [.data, .data, .data], laidTests := true, laidLooks := .later }
def FnExactReadByUptoCardSaid : Prop := Claim7.holds Tryz.pinned (.plain (OpenSpec.upto fnExactReadBySpec)) fnExactReadByUptoCard

/-- THE SECOND FORM's CARD OF 'laws.FnExactFormatCounters'. -/
def fnExactFormatCountersUptoCard : Claim7 := { stood := { row := fnExactFormatCountersUptoRow, standIns := [], harness := (true, "bf8a38356f4adcdb59051b88e6cb5795d5e22aa8500c8b56d7a3378cbde5020f"), looks := false }, kinds := [], alts := [], laidByText := true, laidKinds := [.data, .data, .data], laidTests := true, laidLooks := .later }
def FnExactFormatCountersUptoCardSaid : Prop := Claim7.holds Tryz.pinned (.plain (OpenSpec.upto fnExactFormatCountersSpec)) fnExactFormatCountersUptoCard

/-- THE SECOND FORM's CARD OF 'laws.FnExactFormatConsumers'. -/
def fnExactFormatConsumersUptoCard : Claim7 := { stood := { row := fnExactFormatConsumersUptoRow, standIns := [], harness := (true, "bf8a38356f4adcdb59051b88e6cb5795d5e22aa8500c8b56d7a3378cbde5020f"), looks := false }, kinds := [], alts := [], laidByText := true, laidKinds := [.data, .data, .data], laidTests := true, laidLooks := .later }
def FnExactFormatConsumersUptoCardSaid : Prop := Claim7.holds Tryz.pinned (.plain (OpenSpec.upto fnExactFormatConsumersSpec)) fnExactFormatConsumersUptoCard

/-- THE SECOND FORM's CARD OF 'laws.FnExactFormatInFlight'. -/
def fnExactFormatInFlightUptoCard : Claim7 := { stood := { row := fnExactFormatInFlightUptoRow, standIns := [], harness := (true, "bf8a38356f4adcdb59051b88e6cb5795d5e22aa8500c8b56d7a3378cbde5020f"), looks := false }, kinds := [], alts := [], laidByText := true, laidKinds := [.data, .data, .data], laidTests := true, laidLooks := .later }
def FnExactFormatInFlightUptoCardSaid : Prop := Claim7.holds Tryz.pinned (.plain (OpenSpec.upto fnExactFormatInFlightSpec)) fnExactFormatInFlightUptoCard
end Rows
end Go.Proofs.YtfianjolmcoadaaGreatDoor
