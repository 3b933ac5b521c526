/-
  NARROWER THAN 'FOR EVERY INPUT', by the rows' own cells (each row's printed sentence says how): FinReads: laid · FinWrites: laid · FinBack: laid · PartsReads: laid · PartsWrites: loops, laid · PartsBack: loops, laid · LinesReads: laid · LinesWrites: laid · LinesBack: laid · LinesLong: laid · LinesMore: laid.
  DERIVED. THE GIVEN ROWS OF THIS SEAT. 11 by the template 'for every input the law returns true; each argument reads behind the call as it read before'; 0 by the template 'total and deterministic' (their statements: YtkklccccjmipkaaDoorTotals.lean).
  GIVEN WITH THE SEED: the statements are not yours to turn. If you find one false, say at which input.
  Laid BY PROGRAM, IN A SANDBOX (cutbox-rows.mjs): the forced cells as the released guide's own fill.sh prints them over the translation 7c49e72361b99f95… (all of the seat's roots in one cut). By AI agents, Wed Nov 11 2026. No macro, syntax, notation, axiom, sorry.
-/
import Derived.Test.YtkklccccjmipkaaDoorChecked
import GoSem.PinnedTables
import GoSem.Claim
import GoSem.ClaimJoined
import GoSem.ClaimMapViews
import Derived.JoinedTies
import Derived.KernelRfl
namespace Go.Proofs.YtkklccccjmipkaaDoor
/- THE CELL 'sum', in the pinned program and in every row, IS THE sha256 OF THE DUMP (.gsa) THAT YtkklccccjmipkaaDoorProg.lean LOADS. Nothing in Lean hashes anything: it is a label: what it is worth is what the hold of that sum in a sandbox is worth. -/
noncomputable def Tryd.pinned : Pinned := { name := "ytkklccccjmipkaadoor", sum := "7c49e72361b99f951995e9964c9ac7d0edfc25db74d5b4713b7302bd2ad02e66", checked := Tryd.checked }
namespace Rows
def none {H : Type} : Left H := { results := [], args := [] }

/- WHAT THE LISTED PACKAGE-LEVEL VARIABLES READ AS WHEN THE CALL BEGINS. Each datum BY PROGRAM (the guide's laid-datum.mjs) off the statement by which the dump's own 'gosem.cut.vars' lays the variable. In a bare row this is a premise. The card (YtkklccccjmipkaaDoorCards.lean) ties it to the program's text. -/
def laid_unicode_utf8_acceptRanges {H : Type} : DataW H := .agg [.agg [.lit (.int .u8 128), .lit (.int .u8 191)], .agg [.lit (.int .u8 160), .lit (.int .u8 191)], .agg [.lit (.int .u8 128), .lit (.int .u8 159)], .agg [.lit (.int .u8 144), .lit (.int .u8 191)], .agg [.lit (.int .u8 128), .lit (.int .u8 143)], .agg [.lit (.int .u8 0), .lit (.int .u8 0)], .agg [.lit (.int .u8 0), .lit (.int .u8 0)], .agg [.lit (.int .u8 0), .lit (.int .u8 0)], .agg [.lit (.int .u8 0), .lit (.int .u8 0)], .agg [.lit (.int .u8 0), .lit (.int .u8 0)], .agg [.lit (.int .u8 0), .lit (.int .u8 0)], .agg [.lit (.int .u8 0), .lit (.int .u8 0)], .agg [.lit (.int .u8 0), .lit (.int .u8 0)], .agg [.lit (.int .u8 0), .lit (.int .u8 0)], .agg [.lit (.int .u8 0), .lit (.int .u8 0)], .agg [.lit (.int .u8 0), .lit (.int .u8 0)]]
/-- One of Go's own tables, pinned by name: the form's constant. -/
def laid_unicode_utf8_first : DataW Unit := Go.Pinned.utf8First

/-- 'remitterlaw14.FinReads': WHATEVER THE INPUT: true; the input reads as it did. -/
def finReadsSpec : ChangeSpec := { name := "finReads", fn := fun _ => fun
  | [d] => { results := [.lit (.bool true)], args := [d] }
  | _ => none }
def finReadsRow : OpenClaim := { program := "ytkklccccjmipkaadoor", sum := "7c49e72361b99f951995e9964c9ac7d0edfc25db74d5b4713b7302bd2ad02e66", func := "remitter/remitterlaw14.FinReads", spec := "finReads", inPlace := ["internal/bytealg.IndexByteString", "internal/bytealg.IndexString"], unfollowed := true, recurses := true, named := ["internal/bytealg.MaxLen", "unicode/utf8.first", "unicode/utf8.acceptRanges"], apart := false, laid := [("unicode/utf8.acceptRanges", laid_unicode_utf8_acceptRanges), ("unicode/utf8.first", laid_unicode_utf8_first)] }
def FinReadsSaid : Prop := finReadsRow.holds Tryd.pinned (OpenSpec.ofChange finReadsSpec)

/-- ITS FALSE NEIGHBOUR: 'it returns false'. Refute it at one input. -/
def finReadsWrong : ChangeSpec := { name := "finReads", fn := fun _ => fun
  | [d] => { results := [.lit (.bool false)], args := [d] }
  | _ => none }
def FinReadsWrongFalsely : Prop := finReadsRow.holds Tryd.pinned (OpenSpec.ofChange finReadsWrong)

/-- 'remitterlaw14.FinWrites': WHATEVER THE INPUT: true; the input reads as it did. -/
def finWritesSpec : ChangeSpec := { name := "finWrites", fn := fun _ => fun
  | [d] => { results := [.lit (.bool true)], args := [d] }
  | _ => none }
def finWritesRow : OpenClaim := { program := "ytkklccccjmipkaadoor", sum := "7c49e72361b99f951995e9964c9ac7d0edfc25db74d5b4713b7302bd2ad02e66", func := "remitter/remitterlaw14.FinWrites", spec := "finWrites", inPlace := ["internal/bytealg.IndexByteString", "internal/bytealg.IndexString"], unfollowed := true, recurses := true, named := ["internal/bytealg.MaxLen", "unicode/utf8.first", "unicode/utf8.acceptRanges"], apart := false, laid := [("unicode/utf8.acceptRanges", laid_unicode_utf8_acceptRanges), ("unicode/utf8.first", laid_unicode_utf8_first)] }
def FinWritesSaid : Prop := finWritesRow.holds Tryd.pinned (OpenSpec.ofChange finWritesSpec)

/-- ITS FALSE NEIGHBOUR: 'it returns false'. Refute it at one input. -/
def finWritesWrong : ChangeSpec := { name := "finWrites", fn := fun _ => fun
  | [d] => { results := [.lit (.bool false)], args := [d] }
  | _ => none }
def FinWritesWrongFalsely : Prop := finWritesRow.holds Tryd.pinned (OpenSpec.ofChange finWritesWrong)

/-- 'remitterlaw14.FinBack': WHATEVER THE INPUT: true; the input reads as it did. -/
def finBackSpec : ChangeSpec := { name := "finBack", fn := fun _ => fun
  | [d1, d2] => { results := [.lit (.bool true)], args := [d1, d2] }
  | _ => none }
def finBackRow : OpenClaim := { program := "ytkklccccjmipkaadoor", sum := "7c49e72361b99f951995e9964c9ac7d0edfc25db74d5b4713b7302bd2ad02e66", func := "remitter/remitterlaw14.FinBack", spec := "finBack", inPlace := ["internal/bytealg.IndexByteString", "internal/bytealg.IndexString"], unfollowed := true, recurses := true, named := ["internal/bytealg.MaxLen", "unicode/utf8.first", "unicode/utf8.acceptRanges"], apart := false, laid := [("unicode/utf8.acceptRanges", laid_unicode_utf8_acceptRanges), ("unicode/utf8.first", laid_unicode_utf8_first)] }
def FinBackSaid : Prop := finBackRow.holds Tryd.pinned (OpenSpec.ofChange finBackSpec)

/-- ITS FALSE NEIGHBOUR: 'it returns false'. Refute it at one input. -/
def finBackWrong : ChangeSpec := { name := "finBack", fn := fun _ => fun
  | [d1, d2] => { results := [.lit (.bool false)], args := [d1, d2] }
  | _ => none }
def FinBackWrongFalsely : Prop := finBackRow.holds Tryd.pinned (OpenSpec.ofChange finBackWrong)

/-- 'remitterlaw16.PartsReads': WHATEVER THE INPUT: true; the input reads as it did. -/
def partsReadsSpec : ChangeSpec := { name := "partsReads", fn := fun _ => fun
  | [d1, d2] => { results := [.lit (.bool true)], args := [d1, d2] }
  | _ => none }
def partsReadsRow : OpenClaim := { program := "ytkklccccjmipkaadoor", sum := "7c49e72361b99f951995e9964c9ac7d0edfc25db74d5b4713b7302bd2ad02e66", func := "remitter/remitterlaw16.PartsReads", spec := "partsReads", inPlace := ["internal/bytealg.CountString", "internal/bytealg.IndexByteString", "internal/bytealg.IndexString", "internal/abi.NoEscape", "internal/bytealg.MakeNoZero"], unfollowed := true, recurses := true, named := ["unicode/utf8.first", "unicode/utf8.acceptRanges", "internal/bytealg.MaxLen"], apart := false, laid := [("unicode/utf8.acceptRanges", laid_unicode_utf8_acceptRanges), ("unicode/utf8.first", laid_unicode_utf8_first)] }
def PartsReadsSaid : Prop := partsReadsRow.holds Tryd.pinned (OpenSpec.ofChange partsReadsSpec)

/-- ITS FALSE NEIGHBOUR: 'it returns false'. Refute it at one input. -/
def partsReadsWrong : ChangeSpec := { name := "partsReads", fn := fun _ => fun
  | [d1, d2] => { results := [.lit (.bool false)], args := [d1, d2] }
  | _ => none }
def PartsReadsWrongFalsely : Prop := partsReadsRow.holds Tryd.pinned (OpenSpec.ofChange partsReadsWrong)

/-- 'remitterlaw16.PartsWrites': WHATEVER THE INPUT: true; the input reads as it did. -/
def partsWritesSpec : ChangeSpec := { name := "partsWrites", fn := fun _ => fun
  | [d1, d2] => { results := [.lit (.bool true)], args := [d1, d2] }
  | _ => none }
def partsWritesRow : OpenClaim := { program := "ytkklccccjmipkaadoor", sum := "7c49e72361b99f951995e9964c9ac7d0edfc25db74d5b4713b7302bd2ad02e66", func := "remitter/remitterlaw16.PartsWrites", spec := "partsWrites", inPlace := ["internal/bytealg.CountString", "internal/bytealg.IndexByteString", "internal/bytealg.IndexString", "internal/abi.NoEscape", "internal/bytealg.MakeNoZero"], unfollowed := true, recurses := true, named := ["unicode/utf8.first", "unicode/utf8.acceptRanges", "internal/bytealg.MaxLen"], loops := true, apart := false, laid := [("unicode/utf8.acceptRanges", laid_unicode_utf8_acceptRanges), ("unicode/utf8.first", laid_unicode_utf8_first)] }
def PartsWritesSaid : Prop := partsWritesRow.holds Tryd.pinned (OpenSpec.ofChange partsWritesSpec)

/-- ITS FALSE NEIGHBOUR: 'it returns false'. Refute it at one input. -/
def partsWritesWrong : ChangeSpec := { name := "partsWrites", fn := fun _ => fun
  | [d1, d2] => { results := [.lit (.bool false)], args := [d1, d2] }
  | _ => none }
def PartsWritesWrongFalsely : Prop := partsWritesRow.holds Tryd.pinned (OpenSpec.ofChange partsWritesWrong)

/-- 'remitterlaw16.PartsBack': WHATEVER THE INPUT: true; the input reads as it did. -/
def partsBackSpec : ChangeSpec := { name := "partsBack", fn := fun _ => fun
  | [d1, d2, d3] => { results := [.lit (.bool true)], args := [d1, d2, d3] }
  | _ => none }
def partsBackRow : OpenClaim := { program := "ytkklccccjmipkaadoor", sum := "7c49e72361b99f951995e9964c9ac7d0edfc25db74d5b4713b7302bd2ad02e66", func := "remitter/remitterlaw16.PartsBack", spec := "partsBack", inPlace := ["internal/bytealg.CountString", "internal/bytealg.IndexByteString", "internal/bytealg.IndexString", "internal/abi.NoEscape", "internal/bytealg.MakeNoZero"], unfollowed := true, recurses := true, named := ["unicode/utf8.first", "unicode/utf8.acceptRanges", "internal/bytealg.MaxLen"], loops := true, apart := false, laid := [("unicode/utf8.acceptRanges", laid_unicode_utf8_acceptRanges), ("unicode/utf8.first", laid_unicode_utf8_first)] }
def PartsBackSaid : Prop := partsBackRow.holds Tryd.pinned (OpenSpec.ofChange partsBackSpec)

/-- ITS FALSE NEIGHBOUR: 'it returns false'. Refute it at one input. -/
def partsBackWrong : ChangeSpec := { name := "partsBack", fn := fun _ => fun
  | [d1, d2, d3] => { results := [.lit (.bool false)], args := [d1, d2, d3] }
  | _ => none }
def PartsBackWrongFalsely : Prop := partsBackRow.holds Tryd.pinned (OpenSpec.ofChange partsBackWrong)

/-- 'remitterlaw15.LinesReads': WHATEVER THE INPUT: true; the input reads as it did. -/
def linesReadsSpec : ChangeSpec := { name := "linesReads", fn := fun _ => fun
  | [d] => { results := [.lit (.bool true)], args := [d] }
  | _ => none }
def linesReadsRow : OpenClaim := { program := "ytkklccccjmipkaadoor", sum := "7c49e72361b99f951995e9964c9ac7d0edfc25db74d5b4713b7302bd2ad02e66", func := "remitter/remitterlaw15.LinesReads", spec := "linesReads", inPlace := ["internal/bytealg.IndexByteString", "internal/bytealg.IndexString", "internal/abi.NoEscape", "internal/bytealg.CountString"], unfollowed := true, recurses := true, named := ["unicode/utf8.first", "unicode/utf8.acceptRanges", "internal/bytealg.MaxLen"], apart := false, laid := [("unicode/utf8.acceptRanges", laid_unicode_utf8_acceptRanges), ("unicode/utf8.first", laid_unicode_utf8_first)] }
def LinesReadsSaid : Prop := linesReadsRow.holds Tryd.pinned (OpenSpec.ofChange linesReadsSpec)

/-- ITS FALSE NEIGHBOUR: 'it returns false'. Refute it at one input. -/
def linesReadsWrong : ChangeSpec := { name := "linesReads", fn := fun _ => fun
  | [d] => { results := [.lit (.bool false)], args := [d] }
  | _ => none }
def LinesReadsWrongFalsely : Prop := linesReadsRow.holds Tryd.pinned (OpenSpec.ofChange linesReadsWrong)

/-- 'remitterlaw15.LinesWrites': WHATEVER THE INPUT: true; the input reads as it did. -/
def linesWritesSpec : ChangeSpec := { name := "linesWrites", fn := fun _ => fun
  | [d] => { results := [.lit (.bool true)], args := [d] }
  | _ => none }
def linesWritesRow : OpenClaim := { program := "ytkklccccjmipkaadoor", sum := "7c49e72361b99f951995e9964c9ac7d0edfc25db74d5b4713b7302bd2ad02e66", func := "remitter/remitterlaw15.LinesWrites", spec := "linesWrites", inPlace := ["internal/bytealg.IndexByteString", "internal/bytealg.IndexString", "internal/abi.NoEscape", "internal/bytealg.CountString"], unfollowed := true, recurses := true, named := ["unicode/utf8.first", "unicode/utf8.acceptRanges", "internal/bytealg.MaxLen"], apart := false, laid := [("unicode/utf8.acceptRanges", laid_unicode_utf8_acceptRanges), ("unicode/utf8.first", laid_unicode_utf8_first)] }
def LinesWritesSaid : Prop := linesWritesRow.holds Tryd.pinned (OpenSpec.ofChange linesWritesSpec)

/-- ITS FALSE NEIGHBOUR: 'it returns false'. Refute it at one input. -/
def linesWritesWrong : ChangeSpec := { name := "linesWrites", fn := fun _ => fun
  | [d] => { results := [.lit (.bool false)], args := [d] }
  | _ => none }
def LinesWritesWrongFalsely : Prop := linesWritesRow.holds Tryd.pinned (OpenSpec.ofChange linesWritesWrong)

/-- 'remitterlaw15.LinesBack': WHATEVER THE INPUT: true; the input reads as it did. -/
def linesBackSpec : ChangeSpec := { name := "linesBack", fn := fun _ => fun
  | [d1, d2] => { results := [.lit (.bool true)], args := [d1, d2] }
  | _ => none }
def linesBackRow : OpenClaim := { program := "ytkklccccjmipkaadoor", sum := "7c49e72361b99f951995e9964c9ac7d0edfc25db74d5b4713b7302bd2ad02e66", func := "remitter/remitterlaw15.LinesBack", spec := "linesBack", inPlace := ["internal/bytealg.IndexByteString", "internal/bytealg.IndexString", "internal/abi.NoEscape", "internal/bytealg.CountString"], unfollowed := true, recurses := true, named := ["unicode/utf8.first", "unicode/utf8.acceptRanges", "internal/bytealg.MaxLen"], apart := false, laid := [("unicode/utf8.acceptRanges", laid_unicode_utf8_acceptRanges), ("unicode/utf8.first", laid_unicode_utf8_first)] }
def LinesBackSaid : Prop := linesBackRow.holds Tryd.pinned (OpenSpec.ofChange linesBackSpec)

/-- ITS FALSE NEIGHBOUR: 'it returns false'. Refute it at one input. -/
def linesBackWrong : ChangeSpec := { name := "linesBack", fn := fun _ => fun
  | [d1, d2] => { results := [.lit (.bool false)], args := [d1, d2] }
  | _ => none }
def LinesBackWrongFalsely : Prop := linesBackRow.holds Tryd.pinned (OpenSpec.ofChange linesBackWrong)

/-- 'remitterlaw15.LinesLong': WHATEVER THE INPUT: true; the input reads as it did. -/
def linesLongSpec : ChangeSpec := { name := "linesLong", fn := fun _ => fun
  | [] => { results := [.lit (.bool true)], args := [] }
  | _ => none }
def linesLongRow : OpenClaim := { program := "ytkklccccjmipkaadoor", sum := "7c49e72361b99f951995e9964c9ac7d0edfc25db74d5b4713b7302bd2ad02e66", func := "remitter/remitterlaw15.LinesLong", spec := "linesLong", inPlace := ["internal/bytealg.IndexByteString", "internal/bytealg.IndexString", "internal/abi.NoEscape", "internal/bytealg.CountString"], unfollowed := true, recurses := true, named := ["unicode/utf8.first", "unicode/utf8.acceptRanges", "internal/bytealg.MaxLen"], apart := false, laid := [("unicode/utf8.acceptRanges", laid_unicode_utf8_acceptRanges), ("unicode/utf8.first", laid_unicode_utf8_first)] }
def LinesLongSaid : Prop := linesLongRow.holds Tryd.pinned (OpenSpec.ofChange linesLongSpec)

/-- ITS FALSE NEIGHBOUR: 'it returns false'. Refute it at one input. -/
def linesLongWrong : ChangeSpec := { name := "linesLong", fn := fun _ => fun
  | [] => { results := [.lit (.bool false)], args := [] }
  | _ => none }
def LinesLongWrongFalsely : Prop := linesLongRow.holds Tryd.pinned (OpenSpec.ofChange linesLongWrong)

/-- 'remitterlaw15.LinesMore': WHATEVER THE INPUT: true; the input reads as it did. -/
def linesMoreSpec : ChangeSpec := { name := "linesMore", fn := fun _ => fun
  | [d1, d2] => { results := [.lit (.bool true)], args := [d1, d2] }
  | _ => none }
def linesMoreRow : OpenClaim := { program := "ytkklccccjmipkaadoor", sum := "7c49e72361b99f951995e9964c9ac7d0edfc25db74d5b4713b7302bd2ad02e66", func := "remitter/remitterlaw15.LinesMore", spec := "linesMore", inPlace := ["internal/bytealg.IndexByteString", "internal/bytealg.IndexString", "internal/abi.NoEscape", "internal/bytealg.CountString"], unfollowed := true, recurses := true, named := ["unicode/utf8.first", "unicode/utf8.acceptRanges", "internal/bytealg.MaxLen"], apart := false, laid := [("unicode/utf8.acceptRanges", laid_unicode_utf8_acceptRanges), ("unicode/utf8.first", laid_unicode_utf8_first)] }
def LinesMoreSaid : Prop := linesMoreRow.holds Tryd.pinned (OpenSpec.ofChange linesMoreSpec)

/-- ITS FALSE NEIGHBOUR: 'it returns false'. Refute it at one input. -/
def linesMoreWrong : ChangeSpec := { name := "linesMore", fn := fun _ => fun
  | [d1, d2] => { results := [.lit (.bool false)], args := [d1, d2] }
  | _ => none }
def LinesMoreWrongFalsely : Prop := linesMoreRow.holds Tryd.pinned (OpenSpec.ofChange linesMoreWrong)

/- THE SECOND FORM. 'bulk': how many values and letters a reading holds, each counted each time it is reached (what is shared counts as often as it is met; a slice's spare places count too). A statement '..UptoSaid' is the law's where the arguments, and the package variables that the reading takes, are together of bulk at most 1048576: NARROWER than '..Said'. Prove '..Said' where nothing that the law and all that it calls make is longer than what came in: it says more and counts as full. Else prove '..UptoSaid'. A law counts once. -/
mutual
def uptoBulk {H : Type} : DataW H → Nat
  | .lit (.string bytes) => bytes.length + 1
  | .lit _ => 1
  | .nil => 1
  | .ptr d => uptoBulk d + 1
  | .slice elems spare => uptoBulkAll elems + uptoBulkAll spare + 1
  | .agg parts => uptoBulkAll parts + 1
  | .iface _ d => uptoBulk d + 1
  | .map entries => uptoBulkEntries entries + 1
  | .held _ => 1
def uptoBulkAll {H : Type} : List (DataW H) → Nat
  | [] => 0
  | d :: r => uptoBulk d + uptoBulkAll r
def uptoBulkEntries {H : Type} : List (Lit × DataW H) → Nat
  | [] => 0
  | x :: r => uptoBulkEntry x + uptoBulkEntries r
def uptoBulkEntry {H : Type} : Lit × DataW H → Nat
  | (.string bytes, d) => bytes.length + uptoBulk d + 1
  | (_, d) => uptoBulk d + 1
 end
def uptoSmall : (H : Type) → List (DataW H) → Bool := fun _ ds => decide (uptoBulkAll ds ≤ 1048576)
def OpenSpec.upto (s : _root_.Go.ChangeSpec) : _root_.Go.OpenSpec := { _root_.Go.OpenSpec.ofChange s with cond := some uptoSmall }

/-- 'remitterlaw14.FinReads', WHERE WHAT IT READS IS OF BULK AT MOST 1048576: true; the input reads as it did. -/
def finReadsUptoRow : OpenClaim := { program := "ytkklccccjmipkaadoor", sum := "7c49e72361b99f951995e9964c9ac7d0edfc25db74d5b4713b7302bd2ad02e66", func := "remitter/remitterlaw14.FinReads", spec := "finReads", inPlace := ["internal/bytealg.IndexByteString", "internal/bytealg.IndexString"], unfollowed := true, recurses := true, named := ["internal/bytealg.MaxLen", "unicode/utf8.first", "unicode/utf8.acceptRanges"], apart := false, laid := [("unicode/utf8.acceptRanges", laid_unicode_utf8_acceptRanges), ("unicode/utf8.first", laid_unicode_utf8_first)], narrowed := true }
def FinReadsUptoSaid : Prop := finReadsUptoRow.holds Tryd.pinned (OpenSpec.upto finReadsSpec)

/-- 'remitterlaw14.FinWrites', WHERE WHAT IT READS IS OF BULK AT MOST 1048576: true; the input reads as it did. -/
def finWritesUptoRow : OpenClaim := { program := "ytkklccccjmipkaadoor", sum := "7c49e72361b99f951995e9964c9ac7d0edfc25db74d5b4713b7302bd2ad02e66", func := "remitter/remitterlaw14.FinWrites", spec := "finWrites", inPlace := ["internal/bytealg.IndexByteString", "internal/bytealg.IndexString"], unfollowed := true, recurses := true, named := ["internal/bytealg.MaxLen", "unicode/utf8.first", "unicode/utf8.acceptRanges"], apart := false, laid := [("unicode/utf8.acceptRanges", laid_unicode_utf8_acceptRanges), ("unicode/utf8.first", laid_unicode_utf8_first)], narrowed := true }
def FinWritesUptoSaid : Prop := finWritesUptoRow.holds Tryd.pinned (OpenSpec.upto finWritesSpec)

/-- 'remitterlaw14.FinBack', WHERE WHAT IT READS IS OF BULK AT MOST 1048576: true; the input reads as it did. -/
def finBackUptoRow : OpenClaim := { program := "ytkklccccjmipkaadoor", sum := "7c49e72361b99f951995e9964c9ac7d0edfc25db74d5b4713b7302bd2ad02e66", func := "remitter/remitterlaw14.FinBack", spec := "finBack", inPlace := ["internal/bytealg.IndexByteString", "internal/bytealg.IndexString"], unfollowed := true, recurses := true, named := ["internal/bytealg.MaxLen", "unicode/utf8.first", "unicode/utf8.acceptRanges"], apart := false, laid := [("unicode/utf8.acceptRanges", laid_unicode_utf8_acceptRanges), ("unicode/utf8.first", laid_unicode_utf8_first)], narrowed := true }
def FinBackUptoSaid : Prop := finBackUptoRow.holds Tryd.pinned (OpenSpec.upto finBackSpec)

/-- 'remitterlaw16.PartsReads', WHERE WHAT IT READS IS OF BULK AT MOST 1048576: true; the input reads as it did. -/
def partsReadsUptoRow : OpenClaim := { program := "ytkklccccjmipkaadoor", sum := "7c49e72361b99f951995e9964c9ac7d0edfc25db74d5b4713b7302bd2ad02e66", func := "remitter/remitterlaw16.PartsReads", spec := "partsReads", inPlace := ["internal/bytealg.CountString", "internal/bytealg.IndexByteString", "internal/bytealg.IndexString", "internal/abi.NoEscape", "internal/bytealg.MakeNoZero"], unfollowed := true, recurses := true, named := ["unicode/utf8.first", "unicode/utf8.acceptRanges", "internal/bytealg.MaxLen"], apart := false, laid := [("unicode/utf8.acceptRanges", laid_unicode_utf8_acceptRanges), ("unicode/utf8.first", laid_unicode_utf8_first)], narrowed := true }
def PartsReadsUptoSaid : Prop := partsReadsUptoRow.holds Tryd.pinned (OpenSpec.upto partsReadsSpec)

/-- 'remitterlaw16.PartsWrites', WHERE WHAT IT READS IS OF BULK AT MOST 1048576: true; the input reads as it did. -/
def partsWritesUptoRow : OpenClaim := { program := "ytkklccccjmipkaadoor", sum := "7c49e72361b99f951995e9964c9ac7d0edfc25db74d5b4713b7302bd2ad02e66", func := "remitter/remitterlaw16.PartsWrites", spec := "partsWrites", inPlace := ["internal/bytealg.CountString", "internal/bytealg.IndexByteString", "internal/bytealg.IndexString", "internal/abi.NoEscape", "internal/bytealg.MakeNoZero"], unfollowed := true, recurses := true, named := ["unicode/utf8.first", "unicode/utf8.acceptRanges", "internal/bytealg.MaxLen"], loops := true, apart := false, laid := [("unicode/utf8.acceptRanges", laid_unicode_utf8_acceptRanges), ("unicode/utf8.first", laid_unicode_utf8_first)], narrowed := true }
def PartsWritesUptoSaid : Prop := partsWritesUptoRow.holds Tryd.pinned (OpenSpec.upto partsWritesSpec)

/-- 'remitterlaw16.PartsBack', WHERE WHAT IT READS IS OF BULK AT MOST 1048576: true; the input reads as it did. -/
def partsBackUptoRow : OpenClaim := { program := "ytkklccccjmipkaadoor", sum := "7c49e72361b99f951995e9964c9ac7d0edfc25db74d5b4713b7302bd2ad02e66", func := "remitter/remitterlaw16.PartsBack", spec := "partsBack", inPlace := ["internal/bytealg.CountString", "internal/bytealg.IndexByteString", "internal/bytealg.IndexString", "internal/abi.NoEscape", "internal/bytealg.MakeNoZero"], unfollowed := true, recurses := true, named := ["unicode/utf8.first", "unicode/utf8.acceptRanges", "internal/bytealg.MaxLen"], loops := true, apart := false, laid := [("unicode/utf8.acceptRanges", laid_unicode_utf8_acceptRanges), ("unicode/utf8.first", laid_unicode_utf8_first)], narrowed := true }
def PartsBackUptoSaid : Prop := partsBackUptoRow.holds Tryd.pinned (OpenSpec.upto partsBackSpec)

/-- 'remitterlaw15.LinesReads', WHERE WHAT IT READS IS OF BULK AT MOST 1048576: true; the input reads as it did. -/
def linesReadsUptoRow : OpenClaim := { program := "ytkklccccjmipkaadoor", sum := "7c49e72361b99f951995e9964c9ac7d0edfc25db74d5b4713b7302bd2ad02e66", func := "remitter/remitterlaw15.LinesReads", spec := "linesReads", inPlace := ["internal/bytealg.IndexByteString", "internal/bytealg.IndexString", "internal/abi.NoEscape", "internal/bytealg.CountString"], unfollowed := true, recurses := true, named := ["unicode/utf8.first", "unicode/utf8.acceptRanges", "internal/bytealg.MaxLen"], apart := false, laid := [("unicode/utf8.acceptRanges", laid_unicode_utf8_acceptRanges), ("unicode/utf8.first", laid_unicode_utf8_first)], narrowed := true }
def LinesReadsUptoSaid : Prop := linesReadsUptoRow.holds Tryd.pinned (OpenSpec.upto linesReadsSpec)

/-- 'remitterlaw15.LinesWrites', WHERE WHAT IT READS IS OF BULK AT MOST 1048576: true; the input reads as it did. -/
def linesWritesUptoRow : OpenClaim := { program := "ytkklccccjmipkaadoor", sum := "7c49e72361b99f951995e9964c9ac7d0edfc25db74d5b4713b7302bd2ad02e66", func := "remitter/remitterlaw15.LinesWrites", spec := "linesWrites", inPlace := ["internal/bytealg.IndexByteString", "internal/bytealg.IndexString", "internal/abi.NoEscape", "internal/bytealg.CountString"], unfollowed := true, recurses := true, named := ["unicode/utf8.first", "unicode/utf8.acceptRanges", "internal/bytealg.MaxLen"], apart := false, laid := [("unicode/utf8.acceptRanges", laid_unicode_utf8_acceptRanges), ("unicode/utf8.first", laid_unicode_utf8_first)], narrowed := true }
def LinesWritesUptoSaid : Prop := linesWritesUptoRow.holds Tryd.pinned (OpenSpec.upto linesWritesSpec)

/-- 'remitterlaw15.LinesBack', WHERE WHAT IT READS IS OF BULK AT MOST 1048576: true; the input reads as it did. -/
def linesBackUptoRow : OpenClaim := { program := "ytkklccccjmipkaadoor", sum := "7c49e72361b99f951995e9964c9ac7d0edfc25db74d5b4713b7302bd2ad02e66", func := "remitter/remitterlaw15.LinesBack", spec := "linesBack", inPlace := ["internal/bytealg.IndexByteString", "internal/bytealg.IndexString", "internal/abi.NoEscape", "internal/bytealg.CountString"], unfollowed := true, recurses := true, named := ["unicode/utf8.first", "unicode/utf8.acceptRanges", "internal/bytealg.MaxLen"], apart := false, laid := [("unicode/utf8.acceptRanges", laid_unicode_utf8_acceptRanges), ("unicode/utf8.first", laid_unicode_utf8_first)], narrowed := true }
def LinesBackUptoSaid : Prop := linesBackUptoRow.holds Tryd.pinned (OpenSpec.upto linesBackSpec)

/-- 'remitterlaw15.LinesLong', WHERE WHAT IT READS IS OF BULK AT MOST 1048576: true; the input reads as it did. -/
def linesLongUptoRow : OpenClaim := { program := "ytkklccccjmipkaadoor", sum := "7c49e72361b99f951995e9964c9ac7d0edfc25db74d5b4713b7302bd2ad02e66", func := "remitter/remitterlaw15.LinesLong", spec := "linesLong", inPlace := ["internal/bytealg.IndexByteString", "internal/bytealg.IndexString", "internal/abi.NoEscape", "internal/bytealg.CountString"], unfollowed := true, recurses := true, named := ["unicode/utf8.first", "unicode/utf8.acceptRanges", "internal/bytealg.MaxLen"], apart := false, laid := [("unicode/utf8.acceptRanges", laid_unicode_utf8_acceptRanges), ("unicode/utf8.first", laid_unicode_utf8_first)], narrowed := true }
def LinesLongUptoSaid : Prop := linesLongUptoRow.holds Tryd.pinned (OpenSpec.upto linesLongSpec)

/-- 'remitterlaw15.LinesMore', WHERE WHAT IT READS IS OF BULK AT MOST 1048576: true; the input reads as it did. -/
def linesMoreUptoRow : OpenClaim := { program := "ytkklccccjmipkaadoor", sum := "7c49e72361b99f951995e9964c9ac7d0edfc25db74d5b4713b7302bd2ad02e66", func := "remitter/remitterlaw15.LinesMore", spec := "linesMore", inPlace := ["internal/bytealg.IndexByteString", "internal/bytealg.IndexString", "internal/abi.NoEscape", "internal/bytealg.CountString"], unfollowed := true, recurses := true, named := ["unicode/utf8.first", "unicode/utf8.acceptRanges", "internal/bytealg.MaxLen"], apart := false, laid := [("unicode/utf8.acceptRanges", laid_unicode_utf8_acceptRanges), ("unicode/utf8.first", laid_unicode_utf8_first)], narrowed := true }
def LinesMoreUptoSaid : Prop := linesMoreUptoRow.holds Tryd.pinned (OpenSpec.upto linesMoreSpec)

end Rows
end Go.Proofs.YtkklccccjmipkaaDoor
