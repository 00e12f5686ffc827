/-
  NARROWER THAN 'FOR EVERY INPUT', by the rows' own cells (each row's printed sentence says how): RecordWrites: laid · RecordReads: laid · RecordBack: laid · RecordTurned: laid · RecordBehind: laid.
  DERIVED. THE GIVEN ROWS OF THIS SEAT. 5 by the template 'for every input the law returns true; each argument reads behind the call as it read before'; 0 by the template 'total and deterministic' (their statements: YtjhimmnogjmngaaDoorTotals.lean).
  GIVEN WITH THE SEED: the statements are not yours to turn. If you find one false, say at which input.
  Laid BY PROGRAM, IN A SANDBOX (cutbox-rows.mjs): the forced cells as the released guide's own fill.sh prints them over the translation ce3fd948253febeb… (all of the seat's roots in one cut). By AI agents, Wed Nov 11 2026. No macro, syntax, notation, axiom, sorry.
-/
import Derived.Test.YtjhimmnogjmngaaDoorChecked
import GoSem.Claim
import GoSem.ClaimJoined
import GoSem.ClaimMapViews
import Derived.JoinedTies
import Derived.KernelRfl
namespace Go.Proofs.YtjhimmnogjmngaaDoor
/- THE CELL 'sum', in the pinned program and in every row, IS THE sha256 OF THE DUMP (.gsa) THAT YtjhimmnogjmngaaDoorProg.lean LOADS. Nothing in Lean hashes anything: it is a label: what it is worth is what the hold of that sum in a sandbox is worth. -/
noncomputable def Tryd.pinned : Pinned := { name := "ytjhimmnogjmngaadoor", sum := "ce3fd948253febeb9cf85a861fbe2d4571c65ef3adf85dfb3b3abd17e173419a", checked := Tryd.checked }
namespace Rows
def none {H : Type} : Left H := { results := [], args := [] }

/- WHAT THE LISTED PACKAGE-LEVEL VARIABLES READ AS WHEN THE CALL BEGINS. Each datum BY PROGRAM (the guide's laid-datum.mjs) off the statement by which the dump's own 'gosem.cut.vars' lays the variable. In a bare row this is a premise. The card (YtjhimmnogjmngaaDoorCards.lean) ties it to the program's text. -/
def laid_gong_crc_half {H : Type} : DataW H := .agg [.lit (.int .u32 0), .lit (.int .u32 498536548), .lit (.int .u32 997073096), .lit (.int .u32 651767980), .lit (.int .u32 1994146192), .lit (.int .u32 1802195444), .lit (.int .u32 1303535960), .lit (.int .u32 1342533948), .lit (.int .u32 3988292384), .lit (.int .u32 4027552580), .lit (.int .u32 3604390888), .lit (.int .u32 3412177804), .lit (.int .u32 2607071920), .lit (.int .u32 2262029012), .lit (.int .u32 2685067896), .lit (.int .u32 3183342108)]

/-- 'gonglaw26.RecordWrites': WHATEVER THE INPUT: true; the input reads as it did. -/
def recordWritesSpec : ChangeSpec := { name := "recordWrites", fn := fun _ => fun
  | [d1, d2] => { results := [.lit (.bool true)], args := [d1, d2] }
  | _ => none }
def recordWritesRow : OpenClaim := { program := "ytjhimmnogjmngaadoor", sum := "ce3fd948253febeb9cf85a861fbe2d4571c65ef3adf85dfb3b3abd17e173419a", func := "gong/gonglaw26.RecordWrites", spec := "recordWrites", unfollowed := true, recurses := true, named := ["gong/crc.half"], apart := false, laid := [("gong/crc.half", laid_gong_crc_half)] }
def RecordWritesSaid : Prop := recordWritesRow.holds Tryd.pinned (OpenSpec.ofChange recordWritesSpec)

/-- ITS FALSE NEIGHBOUR: 'it returns false'. Refute it at one input. -/
def recordWritesWrong : ChangeSpec := { name := "recordWrites", fn := fun _ => fun
  | [d1, d2] => { results := [.lit (.bool false)], args := [d1, d2] }
  | _ => none }
def RecordWritesWrongFalsely : Prop := recordWritesRow.holds Tryd.pinned (OpenSpec.ofChange recordWritesWrong)

/-- 'gonglaw26.RecordReads': WHATEVER THE INPUT: true; the input reads as it did. -/
def recordReadsSpec : ChangeSpec := { name := "recordReads", fn := fun _ => fun
  | [d] => { results := [.lit (.bool true)], args := [d] }
  | _ => none }
def recordReadsRow : OpenClaim := { program := "ytjhimmnogjmngaadoor", sum := "ce3fd948253febeb9cf85a861fbe2d4571c65ef3adf85dfb3b3abd17e173419a", func := "gong/gonglaw26.RecordReads", spec := "recordReads", unfollowed := true, recurses := true, named := ["gong/crc.half"], apart := false, laid := [("gong/crc.half", laid_gong_crc_half)] }
def RecordReadsSaid : Prop := recordReadsRow.holds Tryd.pinned (OpenSpec.ofChange recordReadsSpec)

/-- ITS FALSE NEIGHBOUR: 'it returns false'. Refute it at one input. -/
def recordReadsWrong : ChangeSpec := { name := "recordReads", fn := fun _ => fun
  | [d] => { results := [.lit (.bool false)], args := [d] }
  | _ => none }
def RecordReadsWrongFalsely : Prop := recordReadsRow.holds Tryd.pinned (OpenSpec.ofChange recordReadsWrong)

/-- 'gonglaw26.RecordBack': WHATEVER THE INPUT: true; the input reads as it did. -/
def recordBackSpec : ChangeSpec := { name := "recordBack", fn := fun _ => fun
  | [d1, d2] => { results := [.lit (.bool true)], args := [d1, d2] }
  | _ => none }
def recordBackRow : OpenClaim := { program := "ytjhimmnogjmngaadoor", sum := "ce3fd948253febeb9cf85a861fbe2d4571c65ef3adf85dfb3b3abd17e173419a", func := "gong/gonglaw26.RecordBack", spec := "recordBack", unfollowed := true, recurses := true, named := ["gong/crc.half"], apart := false, laid := [("gong/crc.half", laid_gong_crc_half)] }
def RecordBackSaid : Prop := recordBackRow.holds Tryd.pinned (OpenSpec.ofChange recordBackSpec)

/-- ITS FALSE NEIGHBOUR: 'it returns false'. Refute it at one input. -/
def recordBackWrong : ChangeSpec := { name := "recordBack", fn := fun _ => fun
  | [d1, d2] => { results := [.lit (.bool false)], args := [d1, d2] }
  | _ => none }
def RecordBackWrongFalsely : Prop := recordBackRow.holds Tryd.pinned (OpenSpec.ofChange recordBackWrong)

/-- 'gonglaw26.RecordTurned': WHATEVER THE INPUT: true; the input reads as it did. -/
def recordTurnedSpec : ChangeSpec := { name := "recordTurned", fn := fun _ => fun
  | [d1, d2, d3] => { results := [.lit (.bool true)], args := [d1, d2, d3] }
  | _ => none }
def recordTurnedRow : OpenClaim := { program := "ytjhimmnogjmngaadoor", sum := "ce3fd948253febeb9cf85a861fbe2d4571c65ef3adf85dfb3b3abd17e173419a", func := "gong/gonglaw26.RecordTurned", spec := "recordTurned", unfollowed := true, recurses := true, named := ["gong/crc.half"], apart := false, laid := [("gong/crc.half", laid_gong_crc_half)] }
def RecordTurnedSaid : Prop := recordTurnedRow.holds Tryd.pinned (OpenSpec.ofChange recordTurnedSpec)

/-- ITS FALSE NEIGHBOUR: 'it returns false'. Refute it at one input. -/
def recordTurnedWrong : ChangeSpec := { name := "recordTurned", fn := fun _ => fun
  | [d1, d2, d3] => { results := [.lit (.bool false)], args := [d1, d2, d3] }
  | _ => none }
def RecordTurnedWrongFalsely : Prop := recordTurnedRow.holds Tryd.pinned (OpenSpec.ofChange recordTurnedWrong)

/-- 'gonglaw26.RecordBehind': WHATEVER THE INPUT: true; the input reads as it did. -/
def recordBehindSpec : ChangeSpec := { name := "recordBehind", fn := fun _ => fun
  | [d1, d2] => { results := [.lit (.bool true)], args := [d1, d2] }
  | _ => none }
def recordBehindRow : OpenClaim := { program := "ytjhimmnogjmngaadoor", sum := "ce3fd948253febeb9cf85a861fbe2d4571c65ef3adf85dfb3b3abd17e173419a", func := "gong/gonglaw26.RecordBehind", spec := "recordBehind", unfollowed := true, recurses := true, named := ["gong/crc.half"], apart := false, laid := [("gong/crc.half", laid_gong_crc_half)] }
def RecordBehindSaid : Prop := recordBehindRow.holds Tryd.pinned (OpenSpec.ofChange recordBehindSpec)

/-- ITS FALSE NEIGHBOUR: 'it returns false'. Refute it at one input. -/
def recordBehindWrong : ChangeSpec := { name := "recordBehind", fn := fun _ => fun
  | [d1, d2] => { results := [.lit (.bool false)], args := [d1, d2] }
  | _ => none }
def RecordBehindWrongFalsely : Prop := recordBehindRow.holds Tryd.pinned (OpenSpec.ofChange recordBehindWrong)

/- THE SECOND FORM. 'bulk': how many values and letters a reading holds, each counted each time it is reached (what is shared counts as often as it is met; a slice's spare places count too). A statement '..UptoSaid' is the law's where the arguments, and the package variables that the reading takes, are together of bulk at most 1048576: NARROWER than '..Said'. Prove '..Said' where nothing that the law and all that it calls make is longer than what came in: it says more and counts as full. Else prove '..UptoSaid'. A law counts once. -/
mutual
def uptoBulk {H : Type} : DataW H → Nat
  | .lit (.string bytes) => bytes.length + 1
  | .lit _ => 1
  | .nil => 1
  | .ptr d => uptoBulk d + 1
  | .slice elems spare => uptoBulkAll elems + uptoBulkAll spare + 1
  | .agg parts => uptoBulkAll parts + 1
  | .iface _ d => uptoBulk d + 1
  | .map entries => uptoBulkEntries entries + 1
  | .held _ => 1
def uptoBulkAll {H : Type} : List (DataW H) → Nat
  | [] => 0
  | d :: r => uptoBulk d + uptoBulkAll r
def uptoBulkEntries {H : Type} : List (Lit × DataW H) → Nat
  | [] => 0
  | x :: r => uptoBulkEntry x + uptoBulkEntries r
def uptoBulkEntry {H : Type} : Lit × DataW H → Nat
  | (.string bytes, d) => bytes.length + uptoBulk d + 1
  | (_, d) => uptoBulk d + 1
 end
def uptoSmall : (H : Type) → List (DataW H) → Bool := fun _ ds => decide (uptoBulkAll ds ≤ 1048576)
def OpenSpec.upto (s : _root_.Go.ChangeSpec) : _root_.Go.OpenSpec := { _root_.Go.OpenSpec.ofChange s with cond := some uptoSmall }

/-- 'gonglaw26.RecordWrites', WHERE WHAT IT READS IS OF BULK AT MOST 1048576: true; the input reads as it did. -/
def recordWritesUptoRow : OpenClaim := { program := "ytjhimmnogjmngaadoor", sum := "ce3fd948253febeb9cf85a861fbe2d4571c65ef3adf85dfb3b3abd17e173419a", func := "gong/gonglaw26.RecordWrites", spec := "recordWrites", unfollowed := true, recurses := true, named := ["gong/crc.half"], apart := false, laid := [("gong/crc.half", laid_gong_crc_half)], narrowed := true }
def RecordWritesUptoSaid : Prop := recordWritesUptoRow.holds Tryd.pinned (OpenSpec.upto recordWritesSpec)

/-- 'gonglaw26.RecordReads', WHERE WHAT IT READS IS OF BULK AT MOST 1048576: true; the input reads as it did. -/
def recordReadsUptoRow : OpenClaim := { program := "ytjhimmnogjmngaadoor", sum := "ce3fd948253febeb9cf85a861fbe2d4571c65ef3adf85dfb3b3abd17e173419a", func := "gong/gonglaw26.RecordReads", spec := "recordReads", unfollowed := true, recurses := true, named := ["gong/crc.half"], apart := false, laid := [("gong/crc.half", laid_gong_crc_half)], narrowed := true }
def RecordReadsUptoSaid : Prop := recordReadsUptoRow.holds Tryd.pinned (OpenSpec.upto recordReadsSpec)

/-- 'gonglaw26.RecordBack', WHERE WHAT IT READS IS OF BULK AT MOST 1048576: true; the input reads as it did. -/
def recordBackUptoRow : OpenClaim := { program := "ytjhimmnogjmngaadoor", sum := "ce3fd948253febeb9cf85a861fbe2d4571c65ef3adf85dfb3b3abd17e173419a", func := "gong/gonglaw26.RecordBack", spec := "recordBack", unfollowed := true, recurses := true, named := ["gong/crc.half"], apart := false, laid := [("gong/crc.half", laid_gong_crc_half)], narrowed := true }
def RecordBackUptoSaid : Prop := recordBackUptoRow.holds Tryd.pinned (OpenSpec.upto recordBackSpec)

/-- 'gonglaw26.RecordTurned', WHERE WHAT IT READS IS OF BULK AT MOST 1048576: true; the input reads as it did. -/
def recordTurnedUptoRow : OpenClaim := { program := "ytjhimmnogjmngaadoor", sum := "ce3fd948253febeb9cf85a861fbe2d4571c65ef3adf85dfb3b3abd17e173419a", func := "gong/gonglaw26.RecordTurned", spec := "recordTurned", unfollowed := true, recurses := true, named := ["gong/crc.half"], apart := false, laid := [("gong/crc.half", laid_gong_crc_half)], narrowed := true }
def RecordTurnedUptoSaid : Prop := recordTurnedUptoRow.holds Tryd.pinned (OpenSpec.upto recordTurnedSpec)

/-- 'gonglaw26.RecordBehind', WHERE WHAT IT READS IS OF BULK AT MOST 1048576: true; the input reads as it did. -/
def recordBehindUptoRow : OpenClaim := { program := "ytjhimmnogjmngaadoor", sum := "ce3fd948253febeb9cf85a861fbe2d4571c65ef3adf85dfb3b3abd17e173419a", func := "gong/gonglaw26.RecordBehind", spec := "recordBehind", unfollowed := true, recurses := true, named := ["gong/crc.half"], apart := false, laid := [("gong/crc.half", laid_gong_crc_half)], narrowed := true }
def RecordBehindUptoSaid : Prop := recordBehindUptoRow.holds Tryd.pinned (OpenSpec.upto recordBehindSpec)

end Rows
end Go.Proofs.YtjhimmnogjmngaaDoor
