/-
  DERIVED. GIVEN WITH THE SEED: THE CARDS: each row of YtipenplplmdclaaDoorRows.lean that lists a variable, with what it lists TIED to the program's text (the seventh form; the later family's looks); each row that meets fmt, with fmt's text TOLD by the authors' own Lean function (tested against real Go, not proved from fmt's source: count such statements apart). THE CARD IS WHAT COUNTS. Prove the row's statement (the work); the ties are given (YtipenplplmdclaaDoorTie.lean); close each card by the builder's one call (the guide's Derived/Test/ToyasCard.lean, 'card_holds'). Laid BY PROGRAM, IN A SANDBOX (cutbox-door.mjs). By AI agents, Wed Nov 11 2026. No macro, syntax, notation, axiom, sorry.
-/
import Derived.Test.YtipenplplmdclaaDoorRows
import GoSem.ClaimSeven
namespace Go.Proofs.YtipenplplmdclaaDoor
namespace Rows

/-- THE TIED CARD OF 'gonglaw23.TicketWrites'. -/
def ticketWritesCard : Claim7 := { stood := { row := ticketWritesRow, standIns := [], harness := (true, "9f82870e36640dfb5702ad76a2b84487ece746f37b5575c84b21c1295ff48b59"), looks := false }, kinds := [], alts := [], laidByText := true, laidKinds := [.data, .data], laidTests := true, laidLooks := .later }
def TicketWritesCardSaid : Prop := Claim7.holds Tryd.pinned (.plain (OpenSpec.ofChange ticketWritesSpec)) ticketWritesCard

/-- THE TIED CARD OF 'gonglaw23.TicketReads'. -/
def ticketReadsCard : Claim7 := { stood := { row := ticketReadsRow, standIns := [], harness := (true, "9f82870e36640dfb5702ad76a2b84487ece746f37b5575c84b21c1295ff48b59"), looks := false }, kinds := [], alts := [], laidByText := true, laidKinds := [.data, .data], laidTests := true, laidLooks := .later }
def TicketReadsCardSaid : Prop := Claim7.holds Tryd.pinned (.plain (OpenSpec.ofChange ticketReadsSpec)) ticketReadsCard

/-- THE TIED CARD OF 'gonglaw23.TicketBack'. -/
def ticketBackCard : Claim7 := { stood := { row := ticketBackRow, standIns := [], harness := (true, "9f82870e36640dfb5702ad76a2b84487ece746f37b5575c84b21c1295ff48b59"), looks := false }, kinds := [], alts := [], laidByText := true, laidKinds := [.data, .data], laidTests := true, laidLooks := .later }
def TicketBackCardSaid : Prop := Claim7.holds Tryd.pinned (.plain (OpenSpec.ofChange ticketBackSpec)) ticketBackCard

/-- THE TIED CARD OF 'gonglaw23.TicketTurned'. -/
def ticketTurnedCard : Claim7 := { stood := { row := ticketTurnedRow, standIns := [], harness := (true, "9f82870e36640dfb5702ad76a2b84487ece746f37b5575c84b21c1295ff48b59"), looks := false }, kinds := [], alts := [], laidByText := true, laidKinds := [.data, .data], laidTests := true, laidLooks := .later }
def TicketTurnedCardSaid : Prop := Claim7.holds Tryd.pinned (.plain (OpenSpec.ofChange ticketTurnedSpec)) ticketTurnedCard

/-- THE SECOND FORM's CARD OF 'gonglaw23.TicketWrites'. -/
def ticketWritesUptoCard : Claim7 := { stood := { row := ticketWritesUptoRow, standIns := [], harness := (true, "9f82870e36640dfb5702ad76a2b84487ece746f37b5575c84b21c1295ff48b59"), looks := false }, kinds := [], alts := [], laidByText := true, laidKinds := [.data, .data], laidTests := true, laidLooks := .later }
def TicketWritesUptoCardSaid : Prop := Claim7.holds Tryd.pinned (.plain (OpenSpec.upto ticketWritesSpec)) ticketWritesUptoCard

/-- THE SECOND FORM's CARD OF 'gonglaw23.TicketReads'. -/
def ticketReadsUptoCard : Claim7 := { stood := { row := ticketReadsUptoRow, standIns := [], harness := (true, "9f82870e36640dfb5702ad76a2b84487ece746f37b5575c84b21c1295ff48b59"), looks := false }, kinds := [], alts := [], laidByText := true, laidKinds := [.data, .data], laidTests := true, laidLooks := .later }
def TicketReadsUptoCardSaid : Prop := Claim7.holds Tryd.pinned (.plain (OpenSpec.upto ticketReadsSpec)) ticketReadsUptoCard

/-- THE SECOND FORM's CARD OF 'gonglaw23.TicketBack'. -/
def ticketBackUptoCard : Claim7 := { stood := { row := ticketBackUptoRow, standIns := [], harness := (true, "9f82870e36640dfb5702ad76a2b84487ece746f37b5575c84b21c1295ff48b59"), looks := false }, kinds := [], alts := [], laidByText := true, laidKinds := [.data, .data], laidTests := true, laidLooks := .later }
def TicketBackUptoCardSaid : Prop := Claim7.holds Tryd.pinned (.plain (OpenSpec.upto ticketBackSpec)) ticketBackUptoCard

/-- THE SECOND FORM's CARD OF 'gonglaw23.TicketTurned'. -/
def ticketTurnedUptoCard : Claim7 := { stood := { row := ticketTurnedUptoRow, standIns := [], harness := (true, "9f82870e36640dfb5702ad76a2b84487ece746f37b5575c84b21c1295ff48b59"), looks := false }, kinds := [], alts := [], laidByText := true, laidKinds := [.data, .data], laidTests := true, laidLooks := .later }
def TicketTurnedUptoCardSaid : Prop := Claim7.holds Tryd.pinned (.plain (OpenSpec.upto ticketTurnedSpec)) ticketTurnedUptoCard
end Rows
end Go.Proofs.YtipenplplmdclaaDoor
