/-
  No cell of these rows narrows 'for every input' (looked for: loops, veiled, ifaces, maps, wideKeys, modest, calm, conditions, laid).
  DERIVED. THE GIVEN ROWS OF THIS SEAT. 6 by the template 'for every input the law returns true; each argument reads behind the call as it read before'; 0 by the template 'total and deterministic' (their statements: YtjemnphmjbodfaaTotals.lean).
  GIVEN WITH THE SEED: the statements are not yours to turn. If you find one false, say at which input.
  Laid BY PROGRAM, IN A SANDBOX (cutbox-rows.mjs): the forced cells as the released guide's own fill.sh prints them over the translation 99a6531573057706… (all of the seat's roots in one cut). By AI agents, Wed Nov 11 2026. No macro, syntax, notation, axiom, sorry.
-/
import Derived.Test.YtjemnphmjbodfaaChecked
import GoSem.Claim
import GoSem.ClaimJoined
import GoSem.ClaimMapViews
import Derived.JoinedTies
import Derived.KernelRfl
namespace Go.Proofs.Ytjemnphmjbodfaa
/- THE CELL 'sum', in the pinned program and in every row, IS THE sha256 OF THE DUMP (.gsa) THAT YtjemnphmjbodfaaProg.lean LOADS. Nothing in Lean hashes anything: it is a label: what it is worth is what the hold of that sum in a sandbox is worth. -/
noncomputable def Try.pinned : Pinned := { name := "ytjemnphmjbodfaa", sum := "99a6531573057706c299f547aaf05d6fc6df9f711a244cebead81af0f1b15d5c", checked := Try.checked }
namespace Rows
def none {H : Type} : Left H := { results := [], args := [] }

/-- 'remitterlaw04.BicAlike': WHATEVER THE INPUT: true; the input reads as it did. -/
def bicAlikeSpec : ChangeSpec := { name := "bicAlike", fn := fun _ => fun
  | [d1, d2] => { results := [.lit (.bool true)], args := [d1, d2] }
  | _ => none }
def bicAlikeRow : OpenClaim := { program := "ytjemnphmjbodfaa", sum := "99a6531573057706c299f547aaf05d6fc6df9f711a244cebead81af0f1b15d5c", func := "remitter/remitterlaw04.BicAlike", spec := "bicAlike", inPlace := ["internal/bytealg.IndexByteString"], unfollowed := true, recurses := true, apart := false }
def BicAlikeSaid : Prop := bicAlikeRow.holds Try.pinned (OpenSpec.ofChange bicAlikeSpec)

/-- ITS FALSE NEIGHBOUR: 'it returns false'. Refute it at one input. -/
def bicAlikeWrong : ChangeSpec := { name := "bicAlike", fn := fun _ => fun
  | [d1, d2] => { results := [.lit (.bool false)], args := [d1, d2] }
  | _ => none }
def BicAlikeWrongFalsely : Prop := bicAlikeRow.holds Try.pinned (OpenSpec.ofChange bicAlikeWrong)

/-- 'remitterlaw04.BicTells': WHATEVER THE INPUT: true; the input reads as it did. -/
def bicTellsSpec : ChangeSpec := { name := "bicTells", fn := fun _ => fun
  | [d] => { results := [.lit (.bool true)], args := [d] }
  | _ => none }
def bicTellsRow : OpenClaim := { program := "ytjemnphmjbodfaa", sum := "99a6531573057706c299f547aaf05d6fc6df9f711a244cebead81af0f1b15d5c", func := "remitter/remitterlaw04.BicTells", spec := "bicTells", inPlace := ["internal/bytealg.IndexByteString"], unfollowed := true, recurses := true, apart := false }
def BicTellsSaid : Prop := bicTellsRow.holds Try.pinned (OpenSpec.ofChange bicTellsSpec)

/-- ITS FALSE NEIGHBOUR: 'it returns false'. Refute it at one input. -/
def bicTellsWrong : ChangeSpec := { name := "bicTells", fn := fun _ => fun
  | [d] => { results := [.lit (.bool false)], args := [d] }
  | _ => none }
def BicTellsWrongFalsely : Prop := bicTellsRow.holds Try.pinned (OpenSpec.ofChange bicTellsWrong)

/-- 'remitterlaw04.BicTurns': WHATEVER THE INPUT: true; the input reads as it did. -/
def bicTurnsSpec : ChangeSpec := { name := "bicTurns", fn := fun _ => fun
  | [d1, d2, d3] => { results := [.lit (.bool true)], args := [d1, d2, d3] }
  | _ => none }
def bicTurnsRow : OpenClaim := { program := "ytjemnphmjbodfaa", sum := "99a6531573057706c299f547aaf05d6fc6df9f711a244cebead81af0f1b15d5c", func := "remitter/remitterlaw04.BicTurns", spec := "bicTurns", inPlace := ["internal/bytealg.IndexByteString"], unfollowed := true, recurses := true, apart := false }
def BicTurnsSaid : Prop := bicTurnsRow.holds Try.pinned (OpenSpec.ofChange bicTurnsSpec)

/-- ITS FALSE NEIGHBOUR: 'it returns false'. Refute it at one input. -/
def bicTurnsWrong : ChangeSpec := { name := "bicTurns", fn := fun _ => fun
  | [d1, d2, d3] => { results := [.lit (.bool false)], args := [d1, d2, d3] }
  | _ => none }
def BicTurnsWrongFalsely : Prop := bicTurnsRow.holds Try.pinned (OpenSpec.ofChange bicTurnsWrong)

/-- 'remitterlaw05.CharsetTells': WHATEVER THE INPUT: true; the input reads as it did. -/
def charsetTellsSpec : ChangeSpec := { name := "charsetTells", fn := fun _ => fun
  | [d1, d2] => { results := [.lit (.bool true)], args := [d1, d2] }
  | _ => none }
def charsetTellsRow : OpenClaim := { program := "ytjemnphmjbodfaa", sum := "99a6531573057706c299f547aaf05d6fc6df9f711a244cebead81af0f1b15d5c", func := "remitter/remitterlaw05.CharsetTells", spec := "charsetTells", inPlace := ["internal/bytealg.IndexByteString", "internal/abi.NoEscape", "internal/bytealg.MakeNoZero"], unfollowed := true, recurses := true, apart := false }
def CharsetTellsSaid : Prop := charsetTellsRow.holds Try.pinned (OpenSpec.ofChange charsetTellsSpec)

/-- ITS FALSE NEIGHBOUR: 'it returns false'. Refute it at one input. -/
def charsetTellsWrong : ChangeSpec := { name := "charsetTells", fn := fun _ => fun
  | [d1, d2] => { results := [.lit (.bool false)], args := [d1, d2] }
  | _ => none }
def CharsetTellsWrongFalsely : Prop := charsetTellsRow.holds Try.pinned (OpenSpec.ofChange charsetTellsWrong)

/-- 'remitterlaw05.CharsetFolds': WHATEVER THE INPUT: true; the input reads as it did. -/
def charsetFoldsSpec : ChangeSpec := { name := "charsetFolds", fn := fun _ => fun
  | [d1, d2, d3] => { results := [.lit (.bool true)], args := [d1, d2, d3] }
  | _ => none }
def charsetFoldsRow : OpenClaim := { program := "ytjemnphmjbodfaa", sum := "99a6531573057706c299f547aaf05d6fc6df9f711a244cebead81af0f1b15d5c", func := "remitter/remitterlaw05.CharsetFolds", spec := "charsetFolds", inPlace := ["internal/bytealg.IndexByteString", "internal/abi.NoEscape", "internal/bytealg.MakeNoZero"], unfollowed := true, recurses := true, apart := false }
def CharsetFoldsSaid : Prop := charsetFoldsRow.holds Try.pinned (OpenSpec.ofChange charsetFoldsSpec)

/-- ITS FALSE NEIGHBOUR: 'it returns false'. Refute it at one input. -/
def charsetFoldsWrong : ChangeSpec := { name := "charsetFolds", fn := fun _ => fun
  | [d1, d2, d3] => { results := [.lit (.bool false)], args := [d1, d2, d3] }
  | _ => none }
def CharsetFoldsWrongFalsely : Prop := charsetFoldsRow.holds Try.pinned (OpenSpec.ofChange charsetFoldsWrong)

/-- 'remitterlaw05.CharsetKeeps': WHATEVER THE INPUT: true; the input reads as it did. -/
def charsetKeepsSpec : ChangeSpec := { name := "charsetKeeps", fn := fun _ => fun
  | [d1, d2, d3] => { results := [.lit (.bool true)], args := [d1, d2, d3] }
  | _ => none }
def charsetKeepsRow : OpenClaim := { program := "ytjemnphmjbodfaa", sum := "99a6531573057706c299f547aaf05d6fc6df9f711a244cebead81af0f1b15d5c", func := "remitter/remitterlaw05.CharsetKeeps", spec := "charsetKeeps", inPlace := ["internal/bytealg.IndexByteString", "internal/abi.NoEscape", "internal/bytealg.MakeNoZero"], unfollowed := true, recurses := true, apart := false }
def CharsetKeepsSaid : Prop := charsetKeepsRow.holds Try.pinned (OpenSpec.ofChange charsetKeepsSpec)

/-- ITS FALSE NEIGHBOUR: 'it returns false'. Refute it at one input. -/
def charsetKeepsWrong : ChangeSpec := { name := "charsetKeeps", fn := fun _ => fun
  | [d1, d2, d3] => { results := [.lit (.bool false)], args := [d1, d2, d3] }
  | _ => none }
def CharsetKeepsWrongFalsely : Prop := charsetKeepsRow.holds Try.pinned (OpenSpec.ofChange charsetKeepsWrong)

/- THE SECOND FORM. 'bulk': how many values and letters a reading holds, each counted each time it is reached (what is shared counts as often as it is met; a slice's spare places count too). A statement '..UptoSaid' is the law's where the arguments, and the package variables that the reading takes, are together of bulk at most 1048576: NARROWER than '..Said'. Prove '..Said' where nothing that the law and all that it calls make is longer than what came in: it says more and counts as full. Else prove '..UptoSaid'. A law counts once. -/
mutual
def uptoBulk {H : Type} : DataW H → Nat
  | .lit (.string bytes) => bytes.length + 1
  | .lit _ => 1
  | .nil => 1
  | .ptr d => uptoBulk d + 1
  | .slice elems spare => uptoBulkAll elems + uptoBulkAll spare + 1
  | .agg parts => uptoBulkAll parts + 1
  | .iface _ d => uptoBulk d + 1
  | .map entries => uptoBulkEntries entries + 1
  | .held _ => 1
def uptoBulkAll {H : Type} : List (DataW H) → Nat
  | [] => 0
  | d :: r => uptoBulk d + uptoBulkAll r
def uptoBulkEntries {H : Type} : List (Lit × DataW H) → Nat
  | [] => 0
  | x :: r => uptoBulkEntry x + uptoBulkEntries r
def uptoBulkEntry {H : Type} : Lit × DataW H → Nat
  | (.string bytes, d) => bytes.length + uptoBulk d + 1
  | (_, d) => uptoBulk d + 1
 end
def uptoSmall : (H : Type) → List (DataW H) → Bool := fun _ ds => decide (uptoBulkAll ds ≤ 1048576)
def OpenSpec.upto (s : _root_.Go.ChangeSpec) : _root_.Go.OpenSpec := { _root_.Go.OpenSpec.ofChange s with cond := some uptoSmall }

/-- 'remitterlaw04.BicAlike', WHERE WHAT IT READS IS OF BULK AT MOST 1048576: true; the input reads as it did. -/
def bicAlikeUptoRow : OpenClaim := { program := "ytjemnphmjbodfaa", sum := "99a6531573057706c299f547aaf05d6fc6df9f711a244cebead81af0f1b15d5c", func := "remitter/remitterlaw04.BicAlike", spec := "bicAlike", inPlace := ["internal/bytealg.IndexByteString"], unfollowed := true, recurses := true, apart := false, narrowed := true }
def BicAlikeUptoSaid : Prop := bicAlikeUptoRow.holds Try.pinned (OpenSpec.upto bicAlikeSpec)

/-- 'remitterlaw04.BicTells', WHERE WHAT IT READS IS OF BULK AT MOST 1048576: true; the input reads as it did. -/
def bicTellsUptoRow : OpenClaim := { program := "ytjemnphmjbodfaa", sum := "99a6531573057706c299f547aaf05d6fc6df9f711a244cebead81af0f1b15d5c", func := "remitter/remitterlaw04.BicTells", spec := "bicTells", inPlace := ["internal/bytealg.IndexByteString"], unfollowed := true, recurses := true, apart := false, narrowed := true }
def BicTellsUptoSaid : Prop := bicTellsUptoRow.holds Try.pinned (OpenSpec.upto bicTellsSpec)

/-- 'remitterlaw04.BicTurns', WHERE WHAT IT READS IS OF BULK AT MOST 1048576: true; the input reads as it did. -/
def bicTurnsUptoRow : OpenClaim := { program := "ytjemnphmjbodfaa", sum := "99a6531573057706c299f547aaf05d6fc6df9f711a244cebead81af0f1b15d5c", func := "remitter/remitterlaw04.BicTurns", spec := "bicTurns", inPlace := ["internal/bytealg.IndexByteString"], unfollowed := true, recurses := true, apart := false, narrowed := true }
def BicTurnsUptoSaid : Prop := bicTurnsUptoRow.holds Try.pinned (OpenSpec.upto bicTurnsSpec)

/-- 'remitterlaw05.CharsetTells', WHERE WHAT IT READS IS OF BULK AT MOST 1048576: true; the input reads as it did. -/
def charsetTellsUptoRow : OpenClaim := { program := "ytjemnphmjbodfaa", sum := "99a6531573057706c299f547aaf05d6fc6df9f711a244cebead81af0f1b15d5c", func := "remitter/remitterlaw05.CharsetTells", spec := "charsetTells", inPlace := ["internal/bytealg.IndexByteString", "internal/abi.NoEscape", "internal/bytealg.MakeNoZero"], unfollowed := true, recurses := true, apart := false, narrowed := true }
def CharsetTellsUptoSaid : Prop := charsetTellsUptoRow.holds Try.pinned (OpenSpec.upto charsetTellsSpec)

/-- 'remitterlaw05.CharsetFolds', WHERE WHAT IT READS IS OF BULK AT MOST 1048576: true; the input reads as it did. -/
def charsetFoldsUptoRow : OpenClaim := { program := "ytjemnphmjbodfaa", sum := "99a6531573057706c299f547aaf05d6fc6df9f711a244cebead81af0f1b15d5c", func := "remitter/remitterlaw05.CharsetFolds", spec := "charsetFolds", inPlace := ["internal/bytealg.IndexByteString", "internal/abi.NoEscape", "internal/bytealg.MakeNoZero"], unfollowed := true, recurses := true, apart := false, narrowed := true }
def CharsetFoldsUptoSaid : Prop := charsetFoldsUptoRow.holds Try.pinned (OpenSpec.upto charsetFoldsSpec)

/-- 'remitterlaw05.CharsetKeeps', WHERE WHAT IT READS IS OF BULK AT MOST 1048576: true; the input reads as it did. -/
def charsetKeepsUptoRow : OpenClaim := { program := "ytjemnphmjbodfaa", sum := "99a6531573057706c299f547aaf05d6fc6df9f711a244cebead81af0f1b15d5c", func := "remitter/remitterlaw05.CharsetKeeps", spec := "charsetKeeps", inPlace := ["internal/bytealg.IndexByteString", "internal/abi.NoEscape", "internal/bytealg.MakeNoZero"], unfollowed := true, recurses := true, apart := false, narrowed := true }
def CharsetKeepsUptoSaid : Prop := charsetKeepsUptoRow.holds Try.pinned (OpenSpec.upto charsetKeepsSpec)

end Rows
end Go.Proofs.Ytjemnphmjbodfaa
