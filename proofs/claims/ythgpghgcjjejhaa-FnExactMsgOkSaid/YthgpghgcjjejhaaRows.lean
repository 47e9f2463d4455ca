/-
  No cell of these rows narrows 'for every input' (looked for: loops, veiled, ifaces, maps, wideKeys, modest, calm, conditions, laid).
  DERIVED. THE GIVEN ROWS OF THIS SEAT. 12 by the template 'for every input the law returns true; each argument reads behind the call as it read before'; 0 by the template 'total and deterministic' (their statements: YthgpghgcjjejhaaTotals.lean).
  GIVEN WITH THE SEED: the statements are not yours to turn. If you find one false, say at which input.
  Laid BY PROGRAM, IN A SANDBOX (cutbox-rows.mjs): the forced cells as the released guide's own fill.sh prints them over the translation 81a3bc2d4dbe67cf… (all of the seat's roots in one cut). By AI agents, Wed Nov 11 2026. No macro, syntax, notation, axiom, sorry.
-/
import Derived.Test.YthgpghgcjjejhaaChecked
import GoSem.Claim
import GoSem.ClaimJoined
import GoSem.ClaimMapViews
import Derived.JoinedTies
import Derived.KernelRfl
namespace Go.Proofs.Ythgpghgcjjejhaa
/- THE CELL 'sum', in the pinned program and in every row, IS THE sha256 OF THE DUMP (.gsa) THAT YthgpghgcjjejhaaProg.lean LOADS. Nothing in Lean hashes anything: it is a label: what it is worth is what the hold of that sum in a sandbox is worth. -/
noncomputable def Try.pinned : Pinned := { name := "ythgpghgcjjejhaa", sum := "81a3bc2d4dbe67cf0d7b5dd1c3f0d3bac78e4a47ba61805e5efb97f6d21e1d36", checked := Try.checked }
namespace Rows
def none {H : Type} : Left H := { results := [], args := [] }

/-- 'laws.FnExactConstants': WHATEVER THE INPUT: true; the input reads as it did. -/
def fnExactConstantsSpec : ChangeSpec := { name := "fnExactConstants", fn := fun _ => fun
  | [] => { results := [.lit (.bool true)], args := [] }
  | _ => none }
def fnExactConstantsRow : OpenClaim := { program := "ythgpghgcjjejhaa", sum := "81a3bc2d4dbe67cf0d7b5dd1c3f0d3bac78e4a47ba61805e5efb97f6d21e1d36", func := "loop.example/g00851/laws.FnExactConstants", spec := "fnExactConstants", apart := false }
def FnExactConstantsSaid : Prop := fnExactConstantsRow.holds Try.pinned (OpenSpec.ofChange fnExactConstantsSpec)

/-- ITS FALSE NEIGHBOUR: 'it returns false'. Refute it at one input. -/
def fnExactConstantsWrong : ChangeSpec := { name := "fnExactConstants", fn := fun _ => fun
  | [] => { results := [.lit (.bool false)], args := [] }
  | _ => none }
def FnExactConstantsWrongFalsely : Prop := fnExactConstantsRow.holds Try.pinned (OpenSpec.ofChange fnExactConstantsWrong)

/-- 'laws.FnExactTimeOk': WHATEVER THE INPUT: true; the input reads as it did. -/
def fnExactTimeOkSpec : ChangeSpec := { name := "fnExactTimeOk", fn := fun _ => fun
  | [d] => { results := [.lit (.bool true)], args := [d] }
  | _ => none }
def fnExactTimeOkRow : OpenClaim := { program := "ythgpghgcjjejhaa", sum := "81a3bc2d4dbe67cf0d7b5dd1c3f0d3bac78e4a47ba61805e5efb97f6d21e1d36", func := "loop.example/g00851/laws.FnExactTimeOk", spec := "fnExactTimeOk", apart := false }
def FnExactTimeOkSaid : Prop := fnExactTimeOkRow.holds Try.pinned (OpenSpec.ofChange fnExactTimeOkSpec)

/-- ITS FALSE NEIGHBOUR: 'it returns false'. Refute it at one input. -/
def fnExactTimeOkWrong : ChangeSpec := { name := "fnExactTimeOk", fn := fun _ => fun
  | [d] => { results := [.lit (.bool false)], args := [d] }
  | _ => none }
def FnExactTimeOkWrongFalsely : Prop := fnExactTimeOkRow.holds Try.pinned (OpenSpec.ofChange fnExactTimeOkWrong)

/-- 'laws.FnExactDiceOk': WHATEVER THE INPUT: true; the input reads as it did. -/
def fnExactDiceOkSpec : ChangeSpec := { name := "fnExactDiceOk", fn := fun _ => fun
  | [d] => { results := [.lit (.bool true)], args := [d] }
  | _ => none }
def fnExactDiceOkRow : OpenClaim := { program := "ythgpghgcjjejhaa", sum := "81a3bc2d4dbe67cf0d7b5dd1c3f0d3bac78e4a47ba61805e5efb97f6d21e1d36", func := "loop.example/g00851/laws.FnExactDiceOk", spec := "fnExactDiceOk", apart := false }
def FnExactDiceOkSaid : Prop := fnExactDiceOkRow.holds Try.pinned (OpenSpec.ofChange fnExactDiceOkSpec)

/-- ITS FALSE NEIGHBOUR: 'it returns false'. Refute it at one input. -/
def fnExactDiceOkWrong : ChangeSpec := { name := "fnExactDiceOk", fn := fun _ => fun
  | [d] => { results := [.lit (.bool false)], args := [d] }
  | _ => none }
def FnExactDiceOkWrongFalsely : Prop := fnExactDiceOkRow.holds Try.pinned (OpenSpec.ofChange fnExactDiceOkWrong)

/-- 'laws.FnExactDiceOf': WHATEVER THE INPUT: true; the input reads as it did. -/
def fnExactDiceOfSpec : ChangeSpec := { name := "fnExactDiceOf", fn := fun _ => fun
  | [d] => { results := [.lit (.bool true)], args := [d] }
  | _ => none }
def fnExactDiceOfRow : OpenClaim := { program := "ythgpghgcjjejhaa", sum := "81a3bc2d4dbe67cf0d7b5dd1c3f0d3bac78e4a47ba61805e5efb97f6d21e1d36", func := "loop.example/g00851/laws.FnExactDiceOf", spec := "fnExactDiceOf", apart := false }
def FnExactDiceOfSaid : Prop := fnExactDiceOfRow.holds Try.pinned (OpenSpec.ofChange fnExactDiceOfSpec)

/-- ITS FALSE NEIGHBOUR: 'it returns false'. Refute it at one input. -/
def fnExactDiceOfWrong : ChangeSpec := { name := "fnExactDiceOf", fn := fun _ => fun
  | [d] => { results := [.lit (.bool false)], args := [d] }
  | _ => none }
def FnExactDiceOfWrongFalsely : Prop := fnExactDiceOfRow.holds Try.pinned (OpenSpec.ofChange fnExactDiceOfWrong)

/-- 'laws.FnExactRolled': WHATEVER THE INPUT: true; the input reads as it did. -/
def fnExactRolledSpec : ChangeSpec := { name := "fnExactRolled", fn := fun _ => fun
  | [d] => { results := [.lit (.bool true)], args := [d] }
  | _ => none }
def fnExactRolledRow : OpenClaim := { program := "ythgpghgcjjejhaa", sum := "81a3bc2d4dbe67cf0d7b5dd1c3f0d3bac78e4a47ba61805e5efb97f6d21e1d36", func := "loop.example/g00851/laws.FnExactRolled", spec := "fnExactRolled", unfollowed := true, recurses := true, apart := false }
def FnExactRolledSaid : Prop := fnExactRolledRow.holds Try.pinned (OpenSpec.ofChange fnExactRolledSpec)

/-- ITS FALSE NEIGHBOUR: 'it returns false'. Refute it at one input. -/
def fnExactRolledWrong : ChangeSpec := { name := "fnExactRolled", fn := fun _ => fun
  | [d] => { results := [.lit (.bool false)], args := [d] }
  | _ => none }
def FnExactRolledWrongFalsely : Prop := fnExactRolledRow.holds Try.pinned (OpenSpec.ofChange fnExactRolledWrong)

/-- 'laws.FnExactSameRow': WHATEVER THE INPUT: true; the input reads as it did. -/
def fnExactSameRowSpec : ChangeSpec := { name := "fnExactSameRow", fn := fun _ => fun
  | [d1, d2] => { results := [.lit (.bool true)], args := [d1, d2] }
  | _ => none }
def fnExactSameRowRow : OpenClaim := { program := "ythgpghgcjjejhaa", sum := "81a3bc2d4dbe67cf0d7b5dd1c3f0d3bac78e4a47ba61805e5efb97f6d21e1d36", func := "loop.example/g00851/laws.FnExactSameRow", spec := "fnExactSameRow", apart := false }
def FnExactSameRowSaid : Prop := fnExactSameRowRow.holds Try.pinned (OpenSpec.ofChange fnExactSameRowSpec)

/-- ITS FALSE NEIGHBOUR: 'it returns false'. Refute it at one input. -/
def fnExactSameRowWrong : ChangeSpec := { name := "fnExactSameRow", fn := fun _ => fun
  | [d1, d2] => { results := [.lit (.bool false)], args := [d1, d2] }
  | _ => none }
def FnExactSameRowWrongFalsely : Prop := fnExactSameRowRow.holds Try.pinned (OpenSpec.ofChange fnExactSameRowWrong)

/-- 'laws.FnExactRowOk': WHATEVER THE INPUT: true; the input reads as it did. -/
def fnExactRowOkSpec : ChangeSpec := { name := "fnExactRowOk", fn := fun _ => fun
  | [d] => { results := [.lit (.bool true)], args := [d] }
  | _ => none }
def fnExactRowOkRow : OpenClaim := { program := "ythgpghgcjjejhaa", sum := "81a3bc2d4dbe67cf0d7b5dd1c3f0d3bac78e4a47ba61805e5efb97f6d21e1d36", func := "loop.example/g00851/laws.FnExactRowOk", spec := "fnExactRowOk", apart := false }
def FnExactRowOkSaid : Prop := fnExactRowOkRow.holds Try.pinned (OpenSpec.ofChange fnExactRowOkSpec)

/-- ITS FALSE NEIGHBOUR: 'it returns false'. Refute it at one input. -/
def fnExactRowOkWrong : ChangeSpec := { name := "fnExactRowOk", fn := fun _ => fun
  | [d] => { results := [.lit (.bool false)], args := [d] }
  | _ => none }
def FnExactRowOkWrongFalsely : Prop := fnExactRowOkRow.holds Try.pinned (OpenSpec.ofChange fnExactRowOkWrong)

/-- 'laws.FnExactClocksOk': WHATEVER THE INPUT: true; the input reads as it did. -/
def fnExactClocksOkSpec : ChangeSpec := { name := "fnExactClocksOk", fn := fun _ => fun
  | [d] => { results := [.lit (.bool true)], args := [d] }
  | _ => none }
def fnExactClocksOkRow : OpenClaim := { program := "ythgpghgcjjejhaa", sum := "81a3bc2d4dbe67cf0d7b5dd1c3f0d3bac78e4a47ba61805e5efb97f6d21e1d36", func := "loop.example/g00851/laws.FnExactClocksOk", spec := "fnExactClocksOk", apart := false }
def FnExactClocksOkSaid : Prop := fnExactClocksOkRow.holds Try.pinned (OpenSpec.ofChange fnExactClocksOkSpec)

/-- ITS FALSE NEIGHBOUR: 'it returns false'. Refute it at one input. -/
def fnExactClocksOkWrong : ChangeSpec := { name := "fnExactClocksOk", fn := fun _ => fun
  | [d] => { results := [.lit (.bool false)], args := [d] }
  | _ => none }
def FnExactClocksOkWrongFalsely : Prop := fnExactClocksOkRow.holds Try.pinned (OpenSpec.ofChange fnExactClocksOkWrong)

/-- 'laws.FnExactUnder': WHATEVER THE INPUT: true; the input reads as it did. -/
def fnExactUnderSpec : ChangeSpec := { name := "fnExactUnder", fn := fun _ => fun
  | [d1, d2] => { results := [.lit (.bool true)], args := [d1, d2] }
  | _ => none }
def fnExactUnderRow : OpenClaim := { program := "ythgpghgcjjejhaa", sum := "81a3bc2d4dbe67cf0d7b5dd1c3f0d3bac78e4a47ba61805e5efb97f6d21e1d36", func := "loop.example/g00851/laws.FnExactUnder", spec := "fnExactUnder", unfollowed := true, recurses := true, apart := false }
def FnExactUnderSaid : Prop := fnExactUnderRow.holds Try.pinned (OpenSpec.ofChange fnExactUnderSpec)

/-- ITS FALSE NEIGHBOUR: 'it returns false'. Refute it at one input. -/
def fnExactUnderWrong : ChangeSpec := { name := "fnExactUnder", fn := fun _ => fun
  | [d1, d2] => { results := [.lit (.bool false)], args := [d1, d2] }
  | _ => none }
def FnExactUnderWrongFalsely : Prop := fnExactUnderRow.holds Try.pinned (OpenSpec.ofChange fnExactUnderWrong)

/-- 'laws.FnExactSumOf': WHATEVER THE INPUT: true; the input reads as it did. -/
def fnExactSumOfSpec : ChangeSpec := { name := "fnExactSumOf", fn := fun _ => fun
  | [d] => { results := [.lit (.bool true)], args := [d] }
  | _ => none }
def fnExactSumOfRow : OpenClaim := { program := "ythgpghgcjjejhaa", sum := "81a3bc2d4dbe67cf0d7b5dd1c3f0d3bac78e4a47ba61805e5efb97f6d21e1d36", func := "loop.example/g00851/laws.FnExactSumOf", spec := "fnExactSumOf", apart := false }
def FnExactSumOfSaid : Prop := fnExactSumOfRow.holds Try.pinned (OpenSpec.ofChange fnExactSumOfSpec)

/-- ITS FALSE NEIGHBOUR: 'it returns false'. Refute it at one input. -/
def fnExactSumOfWrong : ChangeSpec := { name := "fnExactSumOf", fn := fun _ => fun
  | [d] => { results := [.lit (.bool false)], args := [d] }
  | _ => none }
def FnExactSumOfWrongFalsely : Prop := fnExactSumOfRow.holds Try.pinned (OpenSpec.ofChange fnExactSumOfWrong)

/-- 'laws.FnExactMsgOk': WHATEVER THE INPUT: true; the input reads as it did. -/
def fnExactMsgOkSpec : ChangeSpec := { name := "fnExactMsgOk", fn := fun _ => fun
  | [d] => { results := [.lit (.bool true)], args := [d] }
  | _ => none }
def fnExactMsgOkRow : OpenClaim := { program := "ythgpghgcjjejhaa", sum := "81a3bc2d4dbe67cf0d7b5dd1c3f0d3bac78e4a47ba61805e5efb97f6d21e1d36", func := "loop.example/g00851/laws.FnExactMsgOk", spec := "fnExactMsgOk", apart := false }
def FnExactMsgOkSaid : Prop := fnExactMsgOkRow.holds Try.pinned (OpenSpec.ofChange fnExactMsgOkSpec)

/-- ITS FALSE NEIGHBOUR: 'it returns false'. Refute it at one input. -/
def fnExactMsgOkWrong : ChangeSpec := { name := "fnExactMsgOk", fn := fun _ => fun
  | [d] => { results := [.lit (.bool false)], args := [d] }
  | _ => none }
def FnExactMsgOkWrongFalsely : Prop := fnExactMsgOkRow.holds Try.pinned (OpenSpec.ofChange fnExactMsgOkWrong)

/-- 'laws.FnExactWithSum': WHATEVER THE INPUT: true; the input reads as it did. -/
def fnExactWithSumSpec : ChangeSpec := { name := "fnExactWithSum", fn := fun _ => fun
  | [d] => { results := [.lit (.bool true)], args := [d] }
  | _ => none }
def fnExactWithSumRow : OpenClaim := { program := "ythgpghgcjjejhaa", sum := "81a3bc2d4dbe67cf0d7b5dd1c3f0d3bac78e4a47ba61805e5efb97f6d21e1d36", func := "loop.example/g00851/laws.FnExactWithSum", spec := "fnExactWithSum", apart := false }
def FnExactWithSumSaid : Prop := fnExactWithSumRow.holds Try.pinned (OpenSpec.ofChange fnExactWithSumSpec)

/-- ITS FALSE NEIGHBOUR: 'it returns false'. Refute it at one input. -/
def fnExactWithSumWrong : ChangeSpec := { name := "fnExactWithSum", fn := fun _ => fun
  | [d] => { results := [.lit (.bool false)], args := [d] }
  | _ => none }
def FnExactWithSumWrongFalsely : Prop := fnExactWithSumRow.holds Try.pinned (OpenSpec.ofChange fnExactWithSumWrong)

/- THE SECOND FORM. 'bulk': how many values and letters a reading holds, each counted each time it is reached (what is shared counts as often as it is met; a slice's spare places count too). A statement '..UptoSaid' is the law's where the arguments, and the package variables that the reading takes, are together of bulk at most 1048576: NARROWER than '..Said'. Prove '..Said' where nothing that the law and all that it calls make is longer than what came in: it says more and counts as full. Else prove '..UptoSaid'. A law counts once. -/
mutual
def uptoBulk {H : Type} : DataW H → Nat
  | .lit (.string bytes) => bytes.length + 1
  | .lit _ => 1
  | .nil => 1
  | .ptr d => uptoBulk d + 1
  | .slice elems spare => uptoBulkAll elems + uptoBulkAll spare + 1
  | .agg parts => uptoBulkAll parts + 1
  | .iface _ d => uptoBulk d + 1
  | .map entries => uptoBulkEntries entries + 1
  | .held _ => 1
def uptoBulkAll {H : Type} : List (DataW H) → Nat
  | [] => 0
  | d :: r => uptoBulk d + uptoBulkAll r
def uptoBulkEntries {H : Type} : List (Lit × DataW H) → Nat
  | [] => 0
  | x :: r => uptoBulkEntry x + uptoBulkEntries r
def uptoBulkEntry {H : Type} : Lit × DataW H → Nat
  | (.string bytes, d) => bytes.length + uptoBulk d + 1
  | (_, d) => uptoBulk d + 1
 end
def uptoSmall : (H : Type) → List (DataW H) → Bool := fun _ ds => decide (uptoBulkAll ds ≤ 1048576)
def OpenSpec.upto (s : _root_.Go.ChangeSpec) : _root_.Go.OpenSpec := { _root_.Go.OpenSpec.ofChange s with cond := some uptoSmall }

/-- 'laws.FnExactConstants', WHERE WHAT IT READS IS OF BULK AT MOST 1048576: true; the input reads as it did. -/
def fnExactConstantsUptoRow : OpenClaim := { program := "ythgpghgcjjejhaa", sum := "81a3bc2d4dbe67cf0d7b5dd1c3f0d3bac78e4a47ba61805e5efb97f6d21e1d36", func := "loop.example/g00851/laws.FnExactConstants", spec := "fnExactConstants", apart := false, narrowed := true }
def FnExactConstantsUptoSaid : Prop := fnExactConstantsUptoRow.holds Try.pinned (OpenSpec.upto fnExactConstantsSpec)

/-- 'laws.FnExactTimeOk', WHERE WHAT IT READS IS OF BULK AT MOST 1048576: true; the input reads as it did. -/
def fnExactTimeOkUptoRow : OpenClaim := { program := "ythgpghgcjjejhaa", sum := "81a3bc2d4dbe67cf0d7b5dd1c3f0d3bac78e4a47ba61805e5efb97f6d21e1d36", func := "loop.example/g00851/laws.FnExactTimeOk", spec := "fnExactTimeOk", apart := false, narrowed := true }
def FnExactTimeOkUptoSaid : Prop := fnExactTimeOkUptoRow.holds Try.pinned (OpenSpec.upto fnExactTimeOkSpec)

/-- 'laws.FnExactDiceOk', WHERE WHAT IT READS IS OF BULK AT MOST 1048576: true; the input reads as it did. -/
def fnExactDiceOkUptoRow : OpenClaim := { program := "ythgpghgcjjejhaa", sum := "81a3bc2d4dbe67cf0d7b5dd1c3f0d3bac78e4a47ba61805e5efb97f6d21e1d36", func := "loop.example/g00851/laws.FnExactDiceOk", spec := "fnExactDiceOk", apart := false, narrowed := true }
def FnExactDiceOkUptoSaid : Prop := fnExactDiceOkUptoRow.holds Try.pinned (OpenSpec.upto fnExactDiceOkSpec)

/-- 'laws.FnExactDiceOf', WHERE WHAT IT READS IS OF BULK AT MOST 1048576: true; the input reads as it did. -/
def fnExactDiceOfUptoRow : OpenClaim := { program := "ythgpghgcjjejhaa", sum := "81a3bc2d4dbe67cf0d7b5dd1c3f0d3bac78e4a47ba61805e5efb97f6d21e1d36", func := "loop.example/g00851/laws.FnExactDiceOf", spec := "fnExactDiceOf", apart := false, narrowed := true }
def FnExactDiceOfUptoSaid : Prop := fnExactDiceOfUptoRow.holds Try.pinned (OpenSpec.upto fnExactDiceOfSpec)

/-- 'laws.FnExactRolled', WHERE WHAT IT READS IS OF BULK AT MOST 1048576: true; the input reads as it did. -/
def fnExactRolledUptoRow : OpenClaim := { program := "ythgpghgcjjejhaa", sum := "81a3bc2d4dbe67cf0d7b5dd1c3f0d3bac78e4a47ba61805e5efb97f6d21e1d36", func := "loop.example/g00851/laws.FnExactRolled", spec := "fnExactRolled", unfollowed := true, recurses := true, apart := false, narrowed := true }
def FnExactRolledUptoSaid : Prop := fnExactRolledUptoRow.holds Try.pinned (OpenSpec.upto fnExactRolledSpec)

/-- 'laws.FnExactSameRow', WHERE WHAT IT READS IS OF BULK AT MOST 1048576: true; the input reads as it did. -/
def fnExactSameRowUptoRow : OpenClaim := { program := "ythgpghgcjjejhaa", sum := "81a3bc2d4dbe67cf0d7b5dd1c3f0d3bac78e4a47ba61805e5efb97f6d21e1d36", func := "loop.example/g00851/laws.FnExactSameRow", spec := "fnExactSameRow", apart := false, narrowed := true }
def FnExactSameRowUptoSaid : Prop := fnExactSameRowUptoRow.holds Try.pinned (OpenSpec.upto fnExactSameRowSpec)

/-- 'laws.FnExactRowOk', WHERE WHAT IT READS IS OF BULK AT MOST 1048576: true; the input reads as it did. -/
def fnExactRowOkUptoRow : OpenClaim := { program := "ythgpghgcjjejhaa", sum := "81a3bc2d4dbe67cf0d7b5dd1c3f0d3bac78e4a47ba61805e5efb97f6d21e1d36", func := "loop.example/g00851/laws.FnExactRowOk", spec := "fnExactRowOk", apart := false, narrowed := true }
def FnExactRowOkUptoSaid : Prop := fnExactRowOkUptoRow.holds Try.pinned (OpenSpec.upto fnExactRowOkSpec)

/-- 'laws.FnExactClocksOk', WHERE WHAT IT READS IS OF BULK AT MOST 1048576: true; the input reads as it did. -/
def fnExactClocksOkUptoRow : OpenClaim := { program := "ythgpghgcjjejhaa", sum := "81a3bc2d4dbe67cf0d7b5dd1c3f0d3bac78e4a47ba61805e5efb97f6d21e1d36", func := "loop.example/g00851/laws.FnExactClocksOk", spec := "fnExactClocksOk", apart := false, narrowed := true }
def FnExactClocksOkUptoSaid : Prop := fnExactClocksOkUptoRow.holds Try.pinned (OpenSpec.upto fnExactClocksOkSpec)

/-- 'laws.FnExactUnder', WHERE WHAT IT READS IS OF BULK AT MOST 1048576: true; the input reads as it did. -/
def fnExactUnderUptoRow : OpenClaim := { program := "ythgpghgcjjejhaa", sum := "81a3bc2d4dbe67cf0d7b5dd1c3f0d3bac78e4a47ba61805e5efb97f6d21e1d36", func := "loop.example/g00851/laws.FnExactUnder", spec := "fnExactUnder", unfollowed := true, recurses := true, apart := false, narrowed := true }
def FnExactUnderUptoSaid : Prop := fnExactUnderUptoRow.holds Try.pinned (OpenSpec.upto fnExactUnderSpec)

/-- 'laws.FnExactSumOf', WHERE WHAT IT READS IS OF BULK AT MOST 1048576: true; the input reads as it did. -/
def fnExactSumOfUptoRow : OpenClaim := { program := "ythgpghgcjjejhaa", sum := "81a3bc2d4dbe67cf0d7b5dd1c3f0d3bac78e4a47ba61805e5efb97f6d21e1d36", func := "loop.example/g00851/laws.FnExactSumOf", spec := "fnExactSumOf", apart := false, narrowed := true }
def FnExactSumOfUptoSaid : Prop := fnExactSumOfUptoRow.holds Try.pinned (OpenSpec.upto fnExactSumOfSpec)

/-- 'laws.FnExactMsgOk', WHERE WHAT IT READS IS OF BULK AT MOST 1048576: true; the input reads as it did. -/
def fnExactMsgOkUptoRow : OpenClaim := { program := "ythgpghgcjjejhaa", sum := "81a3bc2d4dbe67cf0d7b5dd1c3f0d3bac78e4a47ba61805e5efb97f6d21e1d36", func := "loop.example/g00851/laws.FnExactMsgOk", spec := "fnExactMsgOk", apart := false, narrowed := true }
def FnExactMsgOkUptoSaid : Prop := fnExactMsgOkUptoRow.holds Try.pinned (OpenSpec.upto fnExactMsgOkSpec)

/-- 'laws.FnExactWithSum', WHERE WHAT IT READS IS OF BULK AT MOST 1048576: true; the input reads as it did. -/
def fnExactWithSumUptoRow : OpenClaim := { program := "ythgpghgcjjejhaa", sum := "81a3bc2d4dbe67cf0d7b5dd1c3f0d3bac78e4a47ba61805e5efb97f6d21e1d36", func := "loop.example/g00851/laws.FnExactWithSum", spec := "fnExactWithSum", apart := false, narrowed := true }
def FnExactWithSumUptoSaid : Prop := fnExactWithSumUptoRow.holds Try.pinned (OpenSpec.upto fnExactWithSumSpec)

end Rows
end Go.Proofs.Ythgpghgcjjejhaa
