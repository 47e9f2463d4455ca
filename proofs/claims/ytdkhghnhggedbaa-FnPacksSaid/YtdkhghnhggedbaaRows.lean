/-
  No cell of these rows narrows 'for every input' (looked for: loops, veiled, ifaces, maps, wideKeys, modest, calm, conditions, laid).
  DERIVED. THE GIVEN ROWS OF THIS SEAT. 9 by the template 'for every input the law returns true; each argument reads behind the call as it read before'; 0 by the template 'total and deterministic' (their statements: YtdkhghnhggedbaaTotals.lean).
  GIVEN WITH THE SEED: the statements are not yours to turn. If you find one false, say at which input.
  Laid BY PROGRAM, IN A SANDBOX (cutbox-rows.mjs): the forced cells as the released guide's own fill.sh prints them over the translation 80957a8b1b3c904d… (all of the seat's roots in one cut). By AI agents, Wed Nov 11 2026. No macro, syntax, notation, axiom, sorry.
-/
import Derived.Test.YtdkhghnhggedbaaChecked
import GoSem.Claim
import GoSem.ClaimJoined
import GoSem.ClaimMapViews
import Derived.JoinedTies
import Derived.KernelRfl
namespace Go.Proofs.Ytdkhghnhggedbaa
/- THE CELL 'sum', in the pinned program and in every row, IS THE sha256 OF THE DUMP (.gsa) THAT YtdkhghnhggedbaaProg.lean LOADS. Nothing in Lean hashes anything: it is a label: what it is worth is what the hold of that sum in a sandbox is worth. -/
noncomputable def Try.pinned : Pinned := { name := "ytdkhghnhggedbaa", sum := "80957a8b1b3c904d5d87d5e0be1a73ca7c0378873845f00274331aaf4a106730", checked := Try.checked }
namespace Rows
def none {H : Type} : Left H := { results := [], args := [] }

/-- 'laws.FnExactSpread': WHATEVER THE INPUT: true; the input reads as it did. -/
def fnExactSpreadSpec : ChangeSpec := { name := "fnExactSpread", fn := fun _ => fun
  | [d1, d2, d3] => { results := [.lit (.bool true)], args := [d1, d2, d3] }
  | _ => none }
def fnExactSpreadRow : OpenClaim := { program := "ytdkhghnhggedbaa", sum := "80957a8b1b3c904d5d87d5e0be1a73ca7c0378873845f00274331aaf4a106730", func := "loop.example/g00851/laws.FnExactSpread", spec := "fnExactSpread", unfollowed := true, recurses := true, apart := false }
def FnExactSpreadSaid : Prop := fnExactSpreadRow.holds Try.pinned (OpenSpec.ofChange fnExactSpreadSpec)

/-- ITS FALSE NEIGHBOUR: 'it returns false'. Refute it at one input. -/
def fnExactSpreadWrong : ChangeSpec := { name := "fnExactSpread", fn := fun _ => fun
  | [d1, d2, d3] => { results := [.lit (.bool false)], args := [d1, d2, d3] }
  | _ => none }
def FnExactSpreadWrongFalsely : Prop := fnExactSpreadRow.holds Try.pinned (OpenSpec.ofChange fnExactSpreadWrong)

/-- 'laws.FnExactUnsummed': WHATEVER THE INPUT: true; the input reads as it did. -/
def fnExactUnsummedSpec : ChangeSpec := { name := "fnExactUnsummed", fn := fun _ => fun
  | [d] => { results := [.lit (.bool true)], args := [d] }
  | _ => none }
def fnExactUnsummedRow : OpenClaim := { program := "ytdkhghnhggedbaa", sum := "80957a8b1b3c904d5d87d5e0be1a73ca7c0378873845f00274331aaf4a106730", func := "loop.example/g00851/laws.FnExactUnsummed", spec := "fnExactUnsummed", apart := false }
def FnExactUnsummedSaid : Prop := fnExactUnsummedRow.holds Try.pinned (OpenSpec.ofChange fnExactUnsummedSpec)

/-- ITS FALSE NEIGHBOUR: 'it returns false'. Refute it at one input. -/
def fnExactUnsummedWrong : ChangeSpec := { name := "fnExactUnsummed", fn := fun _ => fun
  | [d] => { results := [.lit (.bool false)], args := [d] }
  | _ => none }
def FnExactUnsummedWrongFalsely : Prop := fnExactUnsummedRow.holds Try.pinned (OpenSpec.ofChange fnExactUnsummedWrong)

/-- 'laws.FnExactShuffled': WHATEVER THE INPUT: true; the input reads as it did. -/
def fnExactShuffledSpec : ChangeSpec := { name := "fnExactShuffled", fn := fun _ => fun
  | [d1, d2] => { results := [.lit (.bool true)], args := [d1, d2] }
  | _ => none }
def fnExactShuffledRow : OpenClaim := { program := "ytdkhghnhggedbaa", sum := "80957a8b1b3c904d5d87d5e0be1a73ca7c0378873845f00274331aaf4a106730", func := "loop.example/g00851/laws.FnExactShuffled", spec := "fnExactShuffled", unfollowed := true, recurses := true, apart := false }
def FnExactShuffledSaid : Prop := fnExactShuffledRow.holds Try.pinned (OpenSpec.ofChange fnExactShuffledSpec)

/-- ITS FALSE NEIGHBOUR: 'it returns false'. Refute it at one input. -/
def fnExactShuffledWrong : ChangeSpec := { name := "fnExactShuffled", fn := fun _ => fun
  | [d1, d2] => { results := [.lit (.bool false)], args := [d1, d2] }
  | _ => none }
def FnExactShuffledWrongFalsely : Prop := fnExactShuffledRow.holds Try.pinned (OpenSpec.ofChange fnExactShuffledWrong)

/-- 'laws.FnExactPacked': WHATEVER THE INPUT: true; the input reads as it did. -/
def fnExactPackedSpec : ChangeSpec := { name := "fnExactPacked", fn := fun _ => fun
  | [d] => { results := [.lit (.bool true)], args := [d] }
  | _ => none }
def fnExactPackedRow : OpenClaim := { program := "ytdkhghnhggedbaa", sum := "80957a8b1b3c904d5d87d5e0be1a73ca7c0378873845f00274331aaf4a106730", func := "loop.example/g00851/laws.FnExactPacked", spec := "fnExactPacked", apart := false }
def FnExactPackedSaid : Prop := fnExactPackedRow.holds Try.pinned (OpenSpec.ofChange fnExactPackedSpec)

/-- ITS FALSE NEIGHBOUR: 'it returns false'. Refute it at one input. -/
def fnExactPackedWrong : ChangeSpec := { name := "fnExactPacked", fn := fun _ => fun
  | [d] => { results := [.lit (.bool false)], args := [d] }
  | _ => none }
def FnExactPackedWrongFalsely : Prop := fnExactPackedRow.holds Try.pinned (OpenSpec.ofChange fnExactPackedWrong)

/-- 'laws.FnExactUnpacked': WHATEVER THE INPUT: true; the input reads as it did. -/
def fnExactUnpackedSpec : ChangeSpec := { name := "fnExactUnpacked", fn := fun _ => fun
  | [d] => { results := [.lit (.bool true)], args := [d] }
  | _ => none }
def fnExactUnpackedRow : OpenClaim := { program := "ytdkhghnhggedbaa", sum := "80957a8b1b3c904d5d87d5e0be1a73ca7c0378873845f00274331aaf4a106730", func := "loop.example/g00851/laws.FnExactUnpacked", spec := "fnExactUnpacked", apart := false }
def FnExactUnpackedSaid : Prop := fnExactUnpackedRow.holds Try.pinned (OpenSpec.ofChange fnExactUnpackedSpec)

/-- ITS FALSE NEIGHBOUR: 'it returns false'. Refute it at one input. -/
def fnExactUnpackedWrong : ChangeSpec := { name := "fnExactUnpacked", fn := fun _ => fun
  | [d] => { results := [.lit (.bool false)], args := [d] }
  | _ => none }
def FnExactUnpackedWrongFalsely : Prop := fnExactUnpackedRow.holds Try.pinned (OpenSpec.ofChange fnExactUnpackedWrong)

/-- 'laws.FnShuffles': WHATEVER THE INPUT: true; the input reads as it did. -/
def fnShufflesSpec : ChangeSpec := { name := "fnShuffles", fn := fun _ => fun
  | [d] => { results := [.lit (.bool true)], args := [d] }
  | _ => none }
def fnShufflesRow : OpenClaim := { program := "ytdkhghnhggedbaa", sum := "80957a8b1b3c904d5d87d5e0be1a73ca7c0378873845f00274331aaf4a106730", func := "loop.example/g00851/laws.FnShuffles", spec := "fnShuffles", unfollowed := true, recurses := true, apart := false }
def FnShufflesSaid : Prop := fnShufflesRow.holds Try.pinned (OpenSpec.ofChange fnShufflesSpec)

/-- ITS FALSE NEIGHBOUR: 'it returns false'. Refute it at one input. -/
def fnShufflesWrong : ChangeSpec := { name := "fnShuffles", fn := fun _ => fun
  | [d] => { results := [.lit (.bool false)], args := [d] }
  | _ => none }
def FnShufflesWrongFalsely : Prop := fnShufflesRow.holds Try.pinned (OpenSpec.ofChange fnShufflesWrong)

/-- 'laws.FnDiceAgain': WHATEVER THE INPUT: true; the input reads as it did. -/
def fnDiceAgainSpec : ChangeSpec := { name := "fnDiceAgain", fn := fun _ => fun
  | [d] => { results := [.lit (.bool true)], args := [d] }
  | _ => none }
def fnDiceAgainRow : OpenClaim := { program := "ytdkhghnhggedbaa", sum := "80957a8b1b3c904d5d87d5e0be1a73ca7c0378873845f00274331aaf4a106730", func := "loop.example/g00851/laws.FnDiceAgain", spec := "fnDiceAgain", unfollowed := true, recurses := true, apart := false }
def FnDiceAgainSaid : Prop := fnDiceAgainRow.holds Try.pinned (OpenSpec.ofChange fnDiceAgainSpec)

/-- ITS FALSE NEIGHBOUR: 'it returns false'. Refute it at one input. -/
def fnDiceAgainWrong : ChangeSpec := { name := "fnDiceAgain", fn := fun _ => fun
  | [d] => { results := [.lit (.bool false)], args := [d] }
  | _ => none }
def FnDiceAgainWrongFalsely : Prop := fnDiceAgainRow.holds Try.pinned (OpenSpec.ofChange fnDiceAgainWrong)

/-- 'laws.FnRowsBack': WHATEVER THE INPUT: true; the input reads as it did. -/
def fnRowsBackSpec : ChangeSpec := { name := "fnRowsBack", fn := fun _ => fun
  | [d] => { results := [.lit (.bool true)], args := [d] }
  | _ => none }
def fnRowsBackRow : OpenClaim := { program := "ytdkhghnhggedbaa", sum := "80957a8b1b3c904d5d87d5e0be1a73ca7c0378873845f00274331aaf4a106730", func := "loop.example/g00851/laws.FnRowsBack", spec := "fnRowsBack", apart := false }
def FnRowsBackSaid : Prop := fnRowsBackRow.holds Try.pinned (OpenSpec.ofChange fnRowsBackSpec)

/-- ITS FALSE NEIGHBOUR: 'it returns false'. Refute it at one input. -/
def fnRowsBackWrong : ChangeSpec := { name := "fnRowsBack", fn := fun _ => fun
  | [d] => { results := [.lit (.bool false)], args := [d] }
  | _ => none }
def FnRowsBackWrongFalsely : Prop := fnRowsBackRow.holds Try.pinned (OpenSpec.ofChange fnRowsBackWrong)

/-- 'laws.FnPacks': WHATEVER THE INPUT: true; the input reads as it did. -/
def fnPacksSpec : ChangeSpec := { name := "fnPacks", fn := fun _ => fun
  | [d] => { results := [.lit (.bool true)], args := [d] }
  | _ => none }
def fnPacksRow : OpenClaim := { program := "ytdkhghnhggedbaa", sum := "80957a8b1b3c904d5d87d5e0be1a73ca7c0378873845f00274331aaf4a106730", func := "loop.example/g00851/laws.FnPacks", spec := "fnPacks", apart := false }
def FnPacksSaid : Prop := fnPacksRow.holds Try.pinned (OpenSpec.ofChange fnPacksSpec)

/-- ITS FALSE NEIGHBOUR: 'it returns false'. Refute it at one input. -/
def fnPacksWrong : ChangeSpec := { name := "fnPacks", fn := fun _ => fun
  | [d] => { results := [.lit (.bool false)], args := [d] }
  | _ => none }
def FnPacksWrongFalsely : Prop := fnPacksRow.holds Try.pinned (OpenSpec.ofChange fnPacksWrong)

/- THE SECOND FORM. 'bulk': how many values and letters a reading holds, each counted each time it is reached (what is shared counts as often as it is met; a slice's spare places count too). A statement '..UptoSaid' is the law's where the arguments, and the package variables that the reading takes, are together of bulk at most 1048576: NARROWER than '..Said'. Prove '..Said' where nothing that the law and all that it calls make is longer than what came in: it says more and counts as full. Else prove '..UptoSaid'. A law counts once. -/
mutual
def uptoBulk {H : Type} : DataW H → Nat
  | .lit (.string bytes) => bytes.length + 1
  | .lit _ => 1
  | .nil => 1
  | .ptr d => uptoBulk d + 1
  | .slice elems spare => uptoBulkAll elems + uptoBulkAll spare + 1
  | .agg parts => uptoBulkAll parts + 1
  | .iface _ d => uptoBulk d + 1
  | .map entries => uptoBulkEntries entries + 1
  | .held _ => 1
def uptoBulkAll {H : Type} : List (DataW H) → Nat
  | [] => 0
  | d :: r => uptoBulk d + uptoBulkAll r
def uptoBulkEntries {H : Type} : List (Lit × DataW H) → Nat
  | [] => 0
  | x :: r => uptoBulkEntry x + uptoBulkEntries r
def uptoBulkEntry {H : Type} : Lit × DataW H → Nat
  | (.string bytes, d) => bytes.length + uptoBulk d + 1
  | (_, d) => uptoBulk d + 1
 end
def uptoSmall : (H : Type) → List (DataW H) → Bool := fun _ ds => decide (uptoBulkAll ds ≤ 1048576)
def OpenSpec.upto (s : _root_.Go.ChangeSpec) : _root_.Go.OpenSpec := { _root_.Go.OpenSpec.ofChange s with cond := some uptoSmall }

/-- 'laws.FnExactSpread', WHERE WHAT IT READS IS OF BULK AT MOST 1048576: true; the input reads as it did. -/
def fnExactSpreadUptoRow : OpenClaim := { program := "ytdkhghnhggedbaa", sum := "80957a8b1b3c904d5d87d5e0be1a73ca7c0378873845f00274331aaf4a106730", func := "loop.example/g00851/laws.FnExactSpread", spec := "fnExactSpread", unfollowed := true, recurses := true, apart := false, narrowed := true }
def FnExactSpreadUptoSaid : Prop := fnExactSpreadUptoRow.holds Try.pinned (OpenSpec.upto fnExactSpreadSpec)

/-- 'laws.FnExactUnsummed', WHERE WHAT IT READS IS OF BULK AT MOST 1048576: true; the input reads as it did. -/
def fnExactUnsummedUptoRow : OpenClaim := { program := "ytdkhghnhggedbaa", sum := "80957a8b1b3c904d5d87d5e0be1a73ca7c0378873845f00274331aaf4a106730", func := "loop.example/g00851/laws.FnExactUnsummed", spec := "fnExactUnsummed", apart := false, narrowed := true }
def FnExactUnsummedUptoSaid : Prop := fnExactUnsummedUptoRow.holds Try.pinned (OpenSpec.upto fnExactUnsummedSpec)

/-- 'laws.FnExactShuffled', WHERE WHAT IT READS IS OF BULK AT MOST 1048576: true; the input reads as it did. -/
def fnExactShuffledUptoRow : OpenClaim := { program := "ytdkhghnhggedbaa", sum := "80957a8b1b3c904d5d87d5e0be1a73ca7c0378873845f00274331aaf4a106730", func := "loop.example/g00851/laws.FnExactShuffled", spec := "fnExactShuffled", unfollowed := true, recurses := true, apart := false, narrowed := true }
def FnExactShuffledUptoSaid : Prop := fnExactShuffledUptoRow.holds Try.pinned (OpenSpec.upto fnExactShuffledSpec)

/-- 'laws.FnExactPacked', WHERE WHAT IT READS IS OF BULK AT MOST 1048576: true; the input reads as it did. -/
def fnExactPackedUptoRow : OpenClaim := { program := "ytdkhghnhggedbaa", sum := "80957a8b1b3c904d5d87d5e0be1a73ca7c0378873845f00274331aaf4a106730", func := "loop.example/g00851/laws.FnExactPacked", spec := "fnExactPacked", apart := false, narrowed := true }
def FnExactPackedUptoSaid : Prop := fnExactPackedUptoRow.holds Try.pinned (OpenSpec.upto fnExactPackedSpec)

/-- 'laws.FnExactUnpacked', WHERE WHAT IT READS IS OF BULK AT MOST 1048576: true; the input reads as it did. -/
def fnExactUnpackedUptoRow : OpenClaim := { program := "ytdkhghnhggedbaa", sum := "80957a8b1b3c904d5d87d5e0be1a73ca7c0378873845f00274331aaf4a106730", func := "loop.example/g00851/laws.FnExactUnpacked", spec := "fnExactUnpacked", apart := false, narrowed := true }
def FnExactUnpackedUptoSaid : Prop := fnExactUnpackedUptoRow.holds Try.pinned (OpenSpec.upto fnExactUnpackedSpec)

/-- 'laws.FnShuffles', WHERE WHAT IT READS IS OF BULK AT MOST 1048576: true; the input reads as it did. -/
def fnShufflesUptoRow : OpenClaim := { program := "ytdkhghnhggedbaa", sum := "80957a8b1b3c904d5d87d5e0be1a73ca7c0378873845f00274331aaf4a106730", func := "loop.example/g00851/laws.FnShuffles", spec := "fnShuffles", unfollowed := true, recurses := true, apart := false, narrowed := true }
def FnShufflesUptoSaid : Prop := fnShufflesUptoRow.holds Try.pinned (OpenSpec.upto fnShufflesSpec)

/-- 'laws.FnDiceAgain', WHERE WHAT IT READS IS OF BULK AT MOST 1048576: true; the input reads as it did. -/
def fnDiceAgainUptoRow : OpenClaim := { program := "ytdkhghnhggedbaa", sum := "80957a8b1b3c904d5d87d5e0be1a73ca7c0378873845f00274331aaf4a106730", func := "loop.example/g00851/laws.FnDiceAgain", spec := "fnDiceAgain", unfollowed := true, recurses := true, apart := false, narrowed := true }
def FnDiceAgainUptoSaid : Prop := fnDiceAgainUptoRow.holds Try.pinned (OpenSpec.upto fnDiceAgainSpec)

/-- 'laws.FnRowsBack', WHERE WHAT IT READS IS OF BULK AT MOST 1048576: true; the input reads as it did. -/
def fnRowsBackUptoRow : OpenClaim := { program := "ytdkhghnhggedbaa", sum := "80957a8b1b3c904d5d87d5e0be1a73ca7c0378873845f00274331aaf4a106730", func := "loop.example/g00851/laws.FnRowsBack", spec := "fnRowsBack", apart := false, narrowed := true }
def FnRowsBackUptoSaid : Prop := fnRowsBackUptoRow.holds Try.pinned (OpenSpec.upto fnRowsBackSpec)

/-- 'laws.FnPacks', WHERE WHAT IT READS IS OF BULK AT MOST 1048576: true; the input reads as it did. -/
def fnPacksUptoRow : OpenClaim := { program := "ytdkhghnhggedbaa", sum := "80957a8b1b3c904d5d87d5e0be1a73ca7c0378873845f00274331aaf4a106730", func := "loop.example/g00851/laws.FnPacks", spec := "fnPacks", apart := false, narrowed := true }
def FnPacksUptoSaid : Prop := fnPacksUptoRow.holds Try.pinned (OpenSpec.upto fnPacksSpec)

end Rows
end Go.Proofs.Ytdkhghnhggedbaa
