/-
  NARROWER THAN 'FOR EVERY INPUT', by the rows' own cells (each row's printed sentence says how): TicketWrites: laid · TicketReads: laid · TicketBack: laid · TicketTurned: laid.
  DERIVED. THE GIVEN ROWS OF THIS SEAT. 4 by the template 'for every input the law returns true; each argument reads behind the call as it read before'; 0 by the template 'total and deterministic' (their statements: YtipenplplmdclaaDoorTotals.lean).
  GIVEN WITH THE SEED: the statements are not yours to turn. If you find one false, say at which input.
  Laid BY PROGRAM, IN A SANDBOX (cutbox-rows.mjs): the forced cells as the released guide's own fill.sh prints them over the translation 9a684772732709ba… (all of the seat's roots in one cut). By AI agents, Wed Nov 11 2026. No macro, syntax, notation, axiom, sorry.
-/
import Derived.Test.YtipenplplmdclaaDoorChecked
import GoSem.Claim
import GoSem.ClaimJoined
import GoSem.ClaimMapViews
import Derived.JoinedTies
import Derived.KernelRfl
namespace Go.Proofs.YtipenplplmdclaaDoor
/- THE CELL 'sum', in the pinned program and in every row, IS THE sha256 OF THE DUMP (.gsa) THAT YtipenplplmdclaaDoorProg.lean LOADS. Nothing in Lean hashes anything: it is a label: what it is worth is what the hold of that sum in a sandbox is worth. -/
noncomputable def Tryd.pinned : Pinned := { name := "ytipenplplmdclaadoor", sum := "9a684772732709ba35edaf6a45b210f38a730eea1b8e03b93efb531954e2e1f1", checked := Tryd.checked }
namespace Rows
def none {H : Type} : Left H := { results := [], args := [] }

/- WHAT THE LISTED PACKAGE-LEVEL VARIABLES READ AS WHEN THE CALL BEGINS. Each datum BY PROGRAM (the guide's laid-datum.mjs) off the statement by which the dump's own 'gosem.cut.vars' lays the variable. In a bare row this is a premise. The card (YtipenplplmdclaaDoorCards.lean) ties it to the program's text. -/
def laid_gong_crc_half {H : Type} : DataW H := .agg [.lit (.int .u32 0), .lit (.int .u32 498536548), .lit (.int .u32 997073096), .lit (.int .u32 651767980), .lit (.int .u32 1994146192), .lit (.int .u32 1802195444), .lit (.int .u32 1303535960), .lit (.int .u32 1342533948), .lit (.int .u32 3988292384), .lit (.int .u32 4027552580), .lit (.int .u32 3604390888), .lit (.int .u32 3412177804), .lit (.int .u32 2607071920), .lit (.int .u32 2262029012), .lit (.int .u32 2685067896), .lit (.int .u32 3183342108)]
def laid_gong_ticket_whats {H : Type} : DataW H := .agg [.lit (.bool false), .lit (.bool true), .lit (.bool true), .lit (.bool true), .lit (.bool true), .lit (.bool true), .lit (.bool false), .lit (.bool false), .lit (.bool false), .lit (.bool false), .lit (.bool false), .lit (.bool false), .lit (.bool false), .lit (.bool false), .lit (.bool false), .lit (.bool false), .lit (.bool false), .lit (.bool false), .lit (.bool false), .lit (.bool false), .lit (.bool false), .lit (.bool false), .lit (.bool false), .lit (.bool false), .lit (.bool false), .lit (.bool false), .lit (.bool false), .lit (.bool false), .lit (.bool false), .lit (.bool false), .lit (.bool false), .lit (.bool false), .lit (.bool false), .lit (.bool false), .lit (.bool false), .lit (.bool false), .lit (.bool false), .lit (.bool false), .lit (.bool false), .lit (.bool false), .lit (.bool false), .lit (.bool false), .lit (.bool false), .lit (.bool false), .lit (.bool false), .lit (.bool false), .lit (.bool false), .lit (.bool false), .lit (.bool false), .lit (.bool false), .lit (.bool false), .lit (.bool false), .lit (.bool false), .lit (.bool false), .lit (.bool false), .lit (.bool false), .lit (.bool false), .lit (.bool false), .lit (.bool false), .lit (.bool false), .lit (.bool false), .lit (.bool false), .lit (.bool false), .lit (.bool false), .lit (.bool false), .lit (.bool false), .lit (.bool false), .lit (.bool false), .lit (.bool false), .lit (.bool false), .lit (.bool false), .lit (.bool false), .lit (.bool false), .lit (.bool false), .lit (.bool false), .lit (.bool false), .lit (.bool false), .lit (.bool false), .lit (.bool false), .lit (.bool false), .lit (.bool false), .lit (.bool false), .lit (.bool false), .lit (.bool false), .lit (.bool false), .lit (.bool false), .lit (.bool false), .lit (.bool false), .lit (.bool false), .lit (.bool false), .lit (.bool false), .lit (.bool false), .lit (.bool false), .lit (.bool false), .lit (.bool false), .lit (.bool false), .lit (.bool false), .lit (.bool false), .lit (.bool false), .lit (.bool false), .lit (.bool false), .lit (.bool false), .lit (.bool false), .lit (.bool false), .lit (.bool false), .lit (.bool false), .lit (.bool false), .lit (.bool false), .lit (.bool false), .lit (.bool false), .lit (.bool false), .lit (.bool false), .lit (.bool false), .lit (.bool false), .lit (.bool false), .lit (.bool false), .lit (.bool false), .lit (.bool false), .lit (.bool false), .lit (.bool false), .lit (.bool false), .lit (.bool false), .lit (.bool false), .lit (.bool false), .lit (.bool false), .lit (.bool false), .lit (.bool false), .lit (.bool false), .lit (.bool false), .lit (.bool false), .lit (.bool false), .lit (.bool false), .lit (.bool false), .lit (.bool false), .lit (.bool false), .lit (.bool false), .lit (.bool false), .lit (.bool false), .lit (.bool false), .lit (.bool false), .lit (.bool false), .lit (.bool false), .lit (.bool false), .lit (.bool false), .lit (.bool false), .lit (.bool false), .lit (.bool false), .lit (.bool false), .lit (.bool false), .lit (.bool false), .lit (.bool false), .lit (.bool false), .lit (.bool false), .lit (.bool false), .lit (.bool false), .lit (.bool false), .lit (.bool false), .lit (.bool false), .lit (.bool false), .lit (.bool false), .lit (.bool false), .lit (.bool false), .lit (.bool false), .lit (.bool false), .lit (.bool false), .lit (.bool false), .lit (.bool false), .lit (.bool false), .lit (.bool false), .lit (.bool false), .lit (.bool false), .lit (.bool false), .lit (.bool false), .lit (.bool false), .lit (.bool false), .lit (.bool false), .lit (.bool false), .lit (.bool false), .lit (.bool false), .lit (.bool false), .lit (.bool false), .lit (.bool false), .lit (.bool false), .lit (.bool false), .lit (.bool false), .lit (.bool false), .lit (.bool false), .lit (.bool false), .lit (.bool false), .lit (.bool false), .lit (.bool false), .lit (.bool false), .lit (.bool false), .lit (.bool false), .lit (.bool false), .lit (.bool false), .lit (.bool false), .lit (.bool false), .lit (.bool false), .lit (.bool false), .lit (.bool false), .lit (.bool false), .lit (.bool false), .lit (.bool false), .lit (.bool false), .lit (.bool false), .lit (.bool false), .lit (.bool false), .lit (.bool false), .lit (.bool false), .lit (.bool false), .lit (.bool false), .lit (.bool false), .lit (.bool false), .lit (.bool false), .lit (.bool false), .lit (.bool false), .lit (.bool false), .lit (.bool false), .lit (.bool false), .lit (.bool false), .lit (.bool false), .lit (.bool false), .lit (.bool false), .lit (.bool false), .lit (.bool false), .lit (.bool false), .lit (.bool false), .lit (.bool false), .lit (.bool false), .lit (.bool false), .lit (.bool false), .lit (.bool false), .lit (.bool false), .lit (.bool false), .lit (.bool false), .lit (.bool false), .lit (.bool false), .lit (.bool false), .lit (.bool false), .lit (.bool false), .lit (.bool false), .lit (.bool false), .lit (.bool false), .lit (.bool false), .lit (.bool false), .lit (.bool false), .lit (.bool false), .lit (.bool false), .lit (.bool false), .lit (.bool false), .lit (.bool false), .lit (.bool false), .lit (.bool false), .lit (.bool false), .lit (.bool false)]

/-- 'gonglaw23.TicketWrites': WHATEVER THE INPUT: true; the input reads as it did. -/
def ticketWritesSpec : ChangeSpec := { name := "ticketWrites", fn := fun _ => fun
  | [d1, d2] => { results := [.lit (.bool true)], args := [d1, d2] }
  | _ => none }
def ticketWritesRow : OpenClaim := { program := "ytipenplplmdclaadoor", sum := "9a684772732709ba35edaf6a45b210f38a730eea1b8e03b93efb531954e2e1f1", func := "gong/gonglaw23.TicketWrites", spec := "ticketWrites", unfollowed := true, recurses := true, named := ["gong/crc.half", "gong/ticket.whats"], apart := false, laid := [("gong/crc.half", laid_gong_crc_half), ("gong/ticket.whats", laid_gong_ticket_whats)] }
def TicketWritesSaid : Prop := ticketWritesRow.holds Tryd.pinned (OpenSpec.ofChange ticketWritesSpec)

/-- ITS FALSE NEIGHBOUR: 'it returns false'. Refute it at one input. -/
def ticketWritesWrong : ChangeSpec := { name := "ticketWrites", fn := fun _ => fun
  | [d1, d2] => { results := [.lit (.bool false)], args := [d1, d2] }
  | _ => none }
def TicketWritesWrongFalsely : Prop := ticketWritesRow.holds Tryd.pinned (OpenSpec.ofChange ticketWritesWrong)

/-- 'gonglaw23.TicketReads': WHATEVER THE INPUT: true; the input reads as it did. -/
def ticketReadsSpec : ChangeSpec := { name := "ticketReads", fn := fun _ => fun
  | [d] => { results := [.lit (.bool true)], args := [d] }
  | _ => none }
def ticketReadsRow : OpenClaim := { program := "ytipenplplmdclaadoor", sum := "9a684772732709ba35edaf6a45b210f38a730eea1b8e03b93efb531954e2e1f1", func := "gong/gonglaw23.TicketReads", spec := "ticketReads", unfollowed := true, recurses := true, named := ["gong/crc.half", "gong/ticket.whats"], apart := false, laid := [("gong/crc.half", laid_gong_crc_half), ("gong/ticket.whats", laid_gong_ticket_whats)] }
def TicketReadsSaid : Prop := ticketReadsRow.holds Tryd.pinned (OpenSpec.ofChange ticketReadsSpec)

/-- ITS FALSE NEIGHBOUR: 'it returns false'. Refute it at one input. -/
def ticketReadsWrong : ChangeSpec := { name := "ticketReads", fn := fun _ => fun
  | [d] => { results := [.lit (.bool false)], args := [d] }
  | _ => none }
def TicketReadsWrongFalsely : Prop := ticketReadsRow.holds Tryd.pinned (OpenSpec.ofChange ticketReadsWrong)

/-- 'gonglaw23.TicketBack': WHATEVER THE INPUT: true; the input reads as it did. -/
def ticketBackSpec : ChangeSpec := { name := "ticketBack", fn := fun _ => fun
  | [d1, d2, d3] => { results := [.lit (.bool true)], args := [d1, d2, d3] }
  | _ => none }
def ticketBackRow : OpenClaim := { program := "ytipenplplmdclaadoor", sum := "9a684772732709ba35edaf6a45b210f38a730eea1b8e03b93efb531954e2e1f1", func := "gong/gonglaw23.TicketBack", spec := "ticketBack", unfollowed := true, recurses := true, named := ["gong/crc.half", "gong/ticket.whats"], apart := false, laid := [("gong/crc.half", laid_gong_crc_half), ("gong/ticket.whats", laid_gong_ticket_whats)] }
def TicketBackSaid : Prop := ticketBackRow.holds Tryd.pinned (OpenSpec.ofChange ticketBackSpec)

/-- ITS FALSE NEIGHBOUR: 'it returns false'. Refute it at one input. -/
def ticketBackWrong : ChangeSpec := { name := "ticketBack", fn := fun _ => fun
  | [d1, d2, d3] => { results := [.lit (.bool false)], args := [d1, d2, d3] }
  | _ => none }
def TicketBackWrongFalsely : Prop := ticketBackRow.holds Tryd.pinned (OpenSpec.ofChange ticketBackWrong)

/-- 'gonglaw23.TicketTurned': WHATEVER THE INPUT: true; the input reads as it did. -/
def ticketTurnedSpec : ChangeSpec := { name := "ticketTurned", fn := fun _ => fun
  | [d1, d2, d3] => { results := [.lit (.bool true)], args := [d1, d2, d3] }
  | _ => none }
def ticketTurnedRow : OpenClaim := { program := "ytipenplplmdclaadoor", sum := "9a684772732709ba35edaf6a45b210f38a730eea1b8e03b93efb531954e2e1f1", func := "gong/gonglaw23.TicketTurned", spec := "ticketTurned", unfollowed := true, recurses := true, named := ["gong/crc.half", "gong/ticket.whats"], apart := false, laid := [("gong/crc.half", laid_gong_crc_half), ("gong/ticket.whats", laid_gong_ticket_whats)] }
def TicketTurnedSaid : Prop := ticketTurnedRow.holds Tryd.pinned (OpenSpec.ofChange ticketTurnedSpec)

/-- ITS FALSE NEIGHBOUR: 'it returns false'. Refute it at one input. -/
def ticketTurnedWrong : ChangeSpec := { name := "ticketTurned", fn := fun _ => fun
  | [d1, d2, d3] => { results := [.lit (.bool false)], args := [d1, d2, d3] }
  | _ => none }
def TicketTurnedWrongFalsely : Prop := ticketTurnedRow.holds Tryd.pinned (OpenSpec.ofChange ticketTurnedWrong)

/- THE SECOND FORM. 'bulk': how many values and letters a reading holds, each counted each time it is reached (what is shared counts as often as it is met; a slice's spare places count too). A statement '..UptoSaid' is the law's where the arguments, and the package variables that the reading takes, are together of bulk at most 1048576: NARROWER than '..Said'. Prove '..Said' where nothing that the law and all that it calls make is longer than what came in: it says more and counts as full. Else prove '..UptoSaid'. A law counts once. -/
mutual
def uptoBulk {H : Type} : DataW H → Nat
  | .lit (.string bytes) => bytes.length + 1
  | .lit _ => 1
  | .nil => 1
  | .ptr d => uptoBulk d + 1
  | .slice elems spare => uptoBulkAll elems + uptoBulkAll spare + 1
  | .agg parts => uptoBulkAll parts + 1
  | .iface _ d => uptoBulk d + 1
  | .map entries => uptoBulkEntries entries + 1
  | .held _ => 1
def uptoBulkAll {H : Type} : List (DataW H) → Nat
  | [] => 0
  | d :: r => uptoBulk d + uptoBulkAll r
def uptoBulkEntries {H : Type} : List (Lit × DataW H) → Nat
  | [] => 0
  | x :: r => uptoBulkEntry x + uptoBulkEntries r
def uptoBulkEntry {H : Type} : Lit × DataW H → Nat
  | (.string bytes, d) => bytes.length + uptoBulk d + 1
  | (_, d) => uptoBulk d + 1
 end
def uptoSmall : (H : Type) → List (DataW H) → Bool := fun _ ds => decide (uptoBulkAll ds ≤ 1048576)
def OpenSpec.upto (s : _root_.Go.ChangeSpec) : _root_.Go.OpenSpec := { _root_.Go.OpenSpec.ofChange s with cond := some uptoSmall }

/-- 'gonglaw23.TicketWrites', WHERE WHAT IT READS IS OF BULK AT MOST 1048576: true; the input reads as it did. -/
def ticketWritesUptoRow : OpenClaim := { program := "ytipenplplmdclaadoor", sum := "9a684772732709ba35edaf6a45b210f38a730eea1b8e03b93efb531954e2e1f1", func := "gong/gonglaw23.TicketWrites", spec := "ticketWrites", unfollowed := true, recurses := true, named := ["gong/crc.half", "gong/ticket.whats"], apart := false, laid := [("gong/crc.half", laid_gong_crc_half), ("gong/ticket.whats", laid_gong_ticket_whats)], narrowed := true }
def TicketWritesUptoSaid : Prop := ticketWritesUptoRow.holds Tryd.pinned (OpenSpec.upto ticketWritesSpec)

/-- 'gonglaw23.TicketReads', WHERE WHAT IT READS IS OF BULK AT MOST 1048576: true; the input reads as it did. -/
def ticketReadsUptoRow : OpenClaim := { program := "ytipenplplmdclaadoor", sum := "9a684772732709ba35edaf6a45b210f38a730eea1b8e03b93efb531954e2e1f1", func := "gong/gonglaw23.TicketReads", spec := "ticketReads", unfollowed := true, recurses := true, named := ["gong/crc.half", "gong/ticket.whats"], apart := false, laid := [("gong/crc.half", laid_gong_crc_half), ("gong/ticket.whats", laid_gong_ticket_whats)], narrowed := true }
def TicketReadsUptoSaid : Prop := ticketReadsUptoRow.holds Tryd.pinned (OpenSpec.upto ticketReadsSpec)

/-- 'gonglaw23.TicketBack', WHERE WHAT IT READS IS OF BULK AT MOST 1048576: true; the input reads as it did. -/
def ticketBackUptoRow : OpenClaim := { program := "ytipenplplmdclaadoor", sum := "9a684772732709ba35edaf6a45b210f38a730eea1b8e03b93efb531954e2e1f1", func := "gong/gonglaw23.TicketBack", spec := "ticketBack", unfollowed := true, recurses := true, named := ["gong/crc.half", "gong/ticket.whats"], apart := false, laid := [("gong/crc.half", laid_gong_crc_half), ("gong/ticket.whats", laid_gong_ticket_whats)], narrowed := true }
def TicketBackUptoSaid : Prop := ticketBackUptoRow.holds Tryd.pinned (OpenSpec.upto ticketBackSpec)

/-- 'gonglaw23.TicketTurned', WHERE WHAT IT READS IS OF BULK AT MOST 1048576: true; the input reads as it did. -/
def ticketTurnedUptoRow : OpenClaim := { program := "ytipenplplmdclaadoor", sum := "9a684772732709ba35edaf6a45b210f38a730eea1b8e03b93efb531954e2e1f1", func := "gong/gonglaw23.TicketTurned", spec := "ticketTurned", unfollowed := true, recurses := true, named := ["gong/crc.half", "gong/ticket.whats"], apart := false, laid := [("gong/crc.half", laid_gong_crc_half), ("gong/ticket.whats", laid_gong_ticket_whats)], narrowed := true }
def TicketTurnedUptoSaid : Prop := ticketTurnedUptoRow.holds Tryd.pinned (OpenSpec.upto ticketTurnedSpec)

end Rows
end Go.Proofs.YtipenplplmdclaaDoor
