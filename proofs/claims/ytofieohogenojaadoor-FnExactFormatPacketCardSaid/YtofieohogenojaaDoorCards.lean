/-
  DERIVED. GIVEN WITH THE SEED: THE CARDS: each row of YtofieohogenojaaDoorRows.lean that lists a variable, with what it lists TIED to the program's text (the seventh form; the later family's looks); each row that meets fmt, with fmt's text TOLD by the authors' own Lean function (tested against real Go, not proved from fmt's source: count such statements apart). THE CARD IS WHAT COUNTS. Prove the row's statement (the work); the ties are given (YtofieohogenojaaDoorTie.lean); close each card by the builder's one call (the guide's Derived/Test/ToyasCard.lean, 'card_holds'). Laid BY PROGRAM, IN A SANDBOX (cutbox-door.mjs). By AI agents, Wed Nov 11 2026. No macro, syntax, notation, axiom, sorry.
-/
import Derived.Test.YtofieohogenojaaDoorRows
import GoSem.ClaimSeven
namespace Go.Proofs.YtofieohogenojaaDoor
namespace Rows

/-- THE TIED CARD OF 'laws.FnExactFormatData'. -/
def fnExactFormatDataCard : Claim7 := { stood := { row := fnExactFormatDataRow, standIns := [], harness := (true, "9870514024e2522fea867520f25117b8e289467f60ae106b36fd3030bbe0314a"), looks := false }, kinds := [], alts := [], laidByText := true, laidKinds := [.data, .data, .data], laidTests := true, laidLooks := .later }
def FnExactFormatDataCardSaid : Prop := Claim7.holds Tryd.pinned (.plain (OpenSpec.ofChange fnExactFormatDataSpec)) fnExactFormatDataCard

/-- THE TIED CARD OF 'laws.FnExactFormatVector'. -/
def fnExactFormatVectorCard : Claim7 := { stood := { row := fnExactFormatVectorRow, standIns := [], harness := (true, "9870514024e2522fea867520f25117b8e289467f60ae106b36fd3030bbe0314a"), looks := false }, kinds := [], alts := [], laidByText := true, laidKinds := [.data, .data, .data], laidTests := true, laidLooks := .later }
def FnExactFormatVectorCardSaid : Prop := Claim7.holds Tryd.pinned (.plain (OpenSpec.ofChange fnExactFormatVectorSpec)) fnExactFormatVectorCard

/-- THE TIED CARD OF 'laws.FnExactFormatPacket'. -/
def fnExactFormatPacketCard : Claim7 := { stood := { row := fnExactFormatPacketRow, standIns := [], harness := (true, "9870514024e2522fea867520f25117b8e289467f60ae106b36fd3030bbe0314a"), looks := false }, kinds := [], alts := [], laidByText := true, laidKinds := [.data, .data, .data], laidTests := true, laidLooks := .later }
def FnExactFormatPacketCardSaid : Prop := Claim7.holds Tryd.pinned (.plain (OpenSpec.ofChange fnExactFormatPacketSpec)) fnExactFormatPacketCard

/-- THE TIED CARD OF 'laws.FnExactNewSyncGroup'. -/
def fnExactNewSyncGroupCard : Claim7 := { stood := { row := fnExactNewSyncGroupRow, standIns := [], harness := (true, "9870514024e2522fea867520f25117b8e289467f60ae106b36fd3030bbe0314a"), looks := false }, kinds := [], alts := [], laidByText := true, laidKinds := [.data, .data, .data], laidTests := true, laidLooks := .later }
def FnExactNewSyncGroupCardSaid : Prop := Claim7.holds Tryd.pinned (.plain (OpenSpec.ofChange fnExactNewSyncGroupSpec)) fnExactNewSyncGroupCard

/-- THE TIED CARD OF 'laws.FnExactFormatNode'. -/
def fnExactFormatNodeCard : Claim7 := { stood := { row := fnExactFormatNodeRow, standIns := [], harness := (true, "9870514024e2522fea867520f25117b8e289467f60ae106b36fd3030bbe0314a"), looks := false }, kinds := [], alts := [], laidByText := true, laidKinds := [.data, .data, .data], laidTests := true, laidLooks := .later }
def FnExactFormatNodeCardSaid : Prop := Claim7.holds Tryd.pinned (.plain (OpenSpec.ofChange fnExactFormatNodeSpec)) fnExactFormatNodeCard

/-- THE SECOND FORM's CARD OF 'laws.FnExactFormatData'. -/
def fnExactFormatDataUptoCard : Claim7 := { stood := { row := fnExactFormatDataUptoRow, standIns := [], harness := (true, "9870514024e2522fea867520f25117b8e289467f60ae106b36fd3030bbe0314a"), looks := false }, kinds := [], alts := [], laidByText := true, laidKinds := [.data, .data, .data], laidTests := true, laidLooks := .later }
def FnExactFormatDataUptoCardSaid : Prop := Claim7.holds Tryd.pinned (.plain (OpenSpec.upto fnExactFormatDataSpec)) fnExactFormatDataUptoCard

/-- THE SECOND FORM's CARD OF 'laws.FnExactFormatVector'. -/
def fnExactFormatVectorUptoCard : Claim7 := { stood := { row := fnExactFormatVectorUptoRow, standIns := [], harness := (true, "9870514024e2522fea867520f25117b8e289467f60ae106b36fd3030bbe0314a"), looks := false }, kinds := [], alts := [], laidByText := true, laidKinds := [.data, .data, .data], laidTests := true, laidLooks := .later }
def FnExactFormatVectorUptoCardSaid : Prop := Claim7.holds Tryd.pinned (.plain (OpenSpec.upto fnExactFormatVectorSpec)) fnExactFormatVectorUptoCard

/-- THE SECOND FORM's CARD OF 'laws.FnExactFormatPacket'. -/
def fnExactFormatPacketUptoCard : Claim7 := { stood := { row := fnExactFormatPacketUptoRow, standIns := [], harness := (true, "9870514024e2522fea867520f25117b8e289467f60ae106b36fd3030bbe0314a"), looks := false }, kinds := [], alts := [], laidByText := true, laidKinds := [.data, .data, .data], laidTests := true, laidLooks := .later }
def FnExactFormatPacketUptoCardSaid : Prop := Claim7.holds Tryd.pinned (.plain (OpenSpec.upto fnExactFormatPacketSpec)) fnExactFormatPacketUptoCard

/-- THE SECOND FORM's CARD OF 'laws.FnExactNewSyncGroup'. -/
def fnExactNewSyncGroupUptoCard : Claim7 := { stood := { row := fnExactNewSyncGroupUptoRow, standIns := [], harness := (true, "9870514024e2522fea867520f25117b8e289467f60ae106b36fd3030bbe0314a"), looks := false }, kinds := [], alts := [], laidByText := true, laidKinds := [.data, .data, .data], laidTests := true, laidLooks := .later }
def FnExactNewSyncGroupUptoCardSaid : Prop := Claim7.holds Tryd.pinned (.plain (OpenSpec.upto fnExactNewSyncGroupSpec)) fnExactNewSyncGroupUptoCard

/-- THE SECOND FORM's CARD OF 'laws.FnExactFormatNode'. -/
def fnExactFormatNodeUptoCard : Claim7 := { stood := { row := fnExactFormatNodeUptoRow, standIns := [], harness := (true, "9870514024e2522fea867520f25117b8e289467f60ae106b36fd3030bbe0314a"), looks := false }, kinds := [], alts := [], laidByText := true, laidKinds := [.data, .data, .data], laidTests := true, laidLooks := .later }
def FnExactFormatNodeUptoCardSaid : Prop := Claim7.holds Tryd.pinned (.plain (OpenSpec.upto fnExactFormatNodeSpec)) fnExactFormatNodeUptoCard
end Rows
end Go.Proofs.YtofieohogenojaaDoor
