/-
  No cell of these rows narrows 'for every input' (looked for: loops, veiled, ifaces, maps, wideKeys, modest, calm, conditions, laid).
  DERIVED. THE GIVEN ROWS OF THIS SEAT. 12 by the template 'for every input the law returns true; each argument reads behind the call as it read before'; 0 by the template 'total and deterministic' (their statements: YtfakjcckgcgalaaTotals.lean).
  GIVEN WITH THE SEED: the statements are not yours to turn. If you find one false, say at which input.
  Laid BY PROGRAM, IN A SANDBOX (cutbox-rows.mjs): the forced cells as the released guide's own fill.sh prints them over the translation 177605102d8bff78… (all of the seat's roots in one cut). By AI agents, Wed Nov 11 2026. No macro, syntax, notation, axiom, sorry.
-/
import Derived.Test.YtfakjcckgcgalaaChecked
import GoSem.Claim
import GoSem.ClaimJoined
import GoSem.ClaimMapViews
import Derived.JoinedTies
import Derived.KernelRfl
namespace Go.Proofs.Ytfakjcckgcgalaa
/- THE CELL 'sum', in the pinned program and in every row, IS THE sha256 OF THE DUMP (.gsa) THAT YtfakjcckgcgalaaProg.lean LOADS. Nothing in Lean hashes anything: it is a label: what it is worth is what the hold of that sum in a sandbox is worth. -/
noncomputable def Try.pinned : Pinned := { name := "ytfakjcckgcgalaa", sum := "177605102d8bff78e4980842cdf408cb73b2ad3a0e5fae698e18926b4e290592", checked := Try.checked }
namespace Rows
def none {H : Type} : Left H := { results := [], args := [] }

/-- 'laws.FnExactNewDisk': WHATEVER THE INPUT: true; the input reads as it did. -/
def fnExactNewDiskSpec : ChangeSpec := { name := "fnExactNewDisk", fn := fun _ => fun
  | [d] => { results := [.lit (.bool true)], args := [d] }
  | _ => none }
def fnExactNewDiskRow : OpenClaim := { program := "ytfakjcckgcgalaa", sum := "177605102d8bff78e4980842cdf408cb73b2ad3a0e5fae698e18926b4e290592", func := "loop.example/g00851/laws.FnExactNewDisk", spec := "fnExactNewDisk", apart := false }
def FnExactNewDiskSaid : Prop := fnExactNewDiskRow.holds Try.pinned (OpenSpec.ofChange fnExactNewDiskSpec)

/-- ITS FALSE NEIGHBOUR: 'it returns false'. Refute it at one input. -/
def fnExactNewDiskWrong : ChangeSpec := { name := "fnExactNewDisk", fn := fun _ => fun
  | [d] => { results := [.lit (.bool false)], args := [d] }
  | _ => none }
def FnExactNewDiskWrongFalsely : Prop := fnExactNewDiskRow.holds Try.pinned (OpenSpec.ofChange fnExactNewDiskWrong)

/-- 'laws.FnExactDiskOk': WHATEVER THE INPUT: true; the input reads as it did. -/
def fnExactDiskOkSpec : ChangeSpec := { name := "fnExactDiskOk", fn := fun _ => fun
  | [d] => { results := [.lit (.bool true)], args := [d] }
  | _ => none }
def fnExactDiskOkRow : OpenClaim := { program := "ytfakjcckgcgalaa", sum := "177605102d8bff78e4980842cdf408cb73b2ad3a0e5fae698e18926b4e290592", func := "loop.example/g00851/laws.FnExactDiskOk", spec := "fnExactDiskOk", apart := false }
def FnExactDiskOkSaid : Prop := fnExactDiskOkRow.holds Try.pinned (OpenSpec.ofChange fnExactDiskOkSpec)

/-- ITS FALSE NEIGHBOUR: 'it returns false'. Refute it at one input. -/
def fnExactDiskOkWrong : ChangeSpec := { name := "fnExactDiskOk", fn := fun _ => fun
  | [d] => { results := [.lit (.bool false)], args := [d] }
  | _ => none }
def FnExactDiskOkWrongFalsely : Prop := fnExactDiskOkRow.holds Try.pinned (OpenSpec.ofChange fnExactDiskOkWrong)

/-- 'laws.FnExactSafeIn': WHATEVER THE INPUT: true; the input reads as it did. -/
def fnExactSafeInSpec : ChangeSpec := { name := "fnExactSafeIn", fn := fun _ => fun
  | [d] => { results := [.lit (.bool true)], args := [d] }
  | _ => none }
def fnExactSafeInRow : OpenClaim := { program := "ytfakjcckgcgalaa", sum := "177605102d8bff78e4980842cdf408cb73b2ad3a0e5fae698e18926b4e290592", func := "loop.example/g00851/laws.FnExactSafeIn", spec := "fnExactSafeIn", apart := false }
def FnExactSafeInSaid : Prop := fnExactSafeInRow.holds Try.pinned (OpenSpec.ofChange fnExactSafeInSpec)

/-- ITS FALSE NEIGHBOUR: 'it returns false'. Refute it at one input. -/
def fnExactSafeInWrong : ChangeSpec := { name := "fnExactSafeIn", fn := fun _ => fun
  | [d] => { results := [.lit (.bool false)], args := [d] }
  | _ => none }
def FnExactSafeInWrongFalsely : Prop := fnExactSafeInRow.holds Try.pinned (OpenSpec.ofChange fnExactSafeInWrong)

/-- 'laws.FnExactReadAt': WHATEVER THE INPUT: true; the input reads as it did. -/
def fnExactReadAtSpec : ChangeSpec := { name := "fnExactReadAt", fn := fun _ => fun
  | [d1, d2] => { results := [.lit (.bool true)], args := [d1, d2] }
  | _ => none }
def fnExactReadAtRow : OpenClaim := { program := "ytfakjcckgcgalaa", sum := "177605102d8bff78e4980842cdf408cb73b2ad3a0e5fae698e18926b4e290592", func := "loop.example/g00851/laws.FnExactReadAt", spec := "fnExactReadAt", apart := false }
def FnExactReadAtSaid : Prop := fnExactReadAtRow.holds Try.pinned (OpenSpec.ofChange fnExactReadAtSpec)

/-- ITS FALSE NEIGHBOUR: 'it returns false'. Refute it at one input. -/
def fnExactReadAtWrong : ChangeSpec := { name := "fnExactReadAt", fn := fun _ => fun
  | [d1, d2] => { results := [.lit (.bool false)], args := [d1, d2] }
  | _ => none }
def FnExactReadAtWrongFalsely : Prop := fnExactReadAtRow.holds Try.pinned (OpenSpec.ofChange fnExactReadAtWrong)

/-- 'laws.FnExactRotted': WHATEVER THE INPUT: true; the input reads as it did. -/
def fnExactRottedSpec : ChangeSpec := { name := "fnExactRotted", fn := fun _ => fun
  | [d1, d2, d3, d4] => { results := [.lit (.bool true)], args := [d1, d2, d3, d4] }
  | _ => none }
def fnExactRottedRow : OpenClaim := { program := "ytfakjcckgcgalaa", sum := "177605102d8bff78e4980842cdf408cb73b2ad3a0e5fae698e18926b4e290592", func := "loop.example/g00851/laws.FnExactRotted", spec := "fnExactRotted", apart := false }
def FnExactRottedSaid : Prop := fnExactRottedRow.holds Try.pinned (OpenSpec.ofChange fnExactRottedSpec)

/-- ITS FALSE NEIGHBOUR: 'it returns false'. Refute it at one input. -/
def fnExactRottedWrong : ChangeSpec := { name := "fnExactRotted", fn := fun _ => fun
  | [d1, d2, d3, d4] => { results := [.lit (.bool false)], args := [d1, d2, d3, d4] }
  | _ => none }
def FnExactRottedWrongFalsely : Prop := fnExactRottedRow.holds Try.pinned (OpenSpec.ofChange fnExactRottedWrong)

/-- 'laws.FnExactWrote': WHATEVER THE INPUT: true; the input reads as it did. -/
def fnExactWroteSpec : ChangeSpec := { name := "fnExactWrote", fn := fun _ => fun
  | [d1, d2, d3] => { results := [.lit (.bool true)], args := [d1, d2, d3] }
  | _ => none }
def fnExactWroteRow : OpenClaim := { program := "ytfakjcckgcgalaa", sum := "177605102d8bff78e4980842cdf408cb73b2ad3a0e5fae698e18926b4e290592", func := "loop.example/g00851/laws.FnExactWrote", spec := "fnExactWrote", apart := false }
def FnExactWroteSaid : Prop := fnExactWroteRow.holds Try.pinned (OpenSpec.ofChange fnExactWroteSpec)

/-- ITS FALSE NEIGHBOUR: 'it returns false'. Refute it at one input. -/
def fnExactWroteWrong : ChangeSpec := { name := "fnExactWrote", fn := fun _ => fun
  | [d1, d2, d3] => { results := [.lit (.bool false)], args := [d1, d2, d3] }
  | _ => none }
def FnExactWroteWrongFalsely : Prop := fnExactWroteRow.holds Try.pinned (OpenSpec.ofChange fnExactWroteWrong)

/-- 'laws.FnExactSynced': WHATEVER THE INPUT: true; the input reads as it did. -/
def fnExactSyncedSpec : ChangeSpec := { name := "fnExactSynced", fn := fun _ => fun
  | [d] => { results := [.lit (.bool true)], args := [d] }
  | _ => none }
def fnExactSyncedRow : OpenClaim := { program := "ytfakjcckgcgalaa", sum := "177605102d8bff78e4980842cdf408cb73b2ad3a0e5fae698e18926b4e290592", func := "loop.example/g00851/laws.FnExactSynced", spec := "fnExactSynced", apart := false }
def FnExactSyncedSaid : Prop := fnExactSyncedRow.holds Try.pinned (OpenSpec.ofChange fnExactSyncedSpec)

/-- ITS FALSE NEIGHBOUR: 'it returns false'. Refute it at one input. -/
def fnExactSyncedWrong : ChangeSpec := { name := "fnExactSynced", fn := fun _ => fun
  | [d] => { results := [.lit (.bool false)], args := [d] }
  | _ => none }
def FnExactSyncedWrongFalsely : Prop := fnExactSyncedRow.holds Try.pinned (OpenSpec.ofChange fnExactSyncedWrong)

/-- 'laws.FnExactFallen': WHATEVER THE INPUT: true; the input reads as it did. -/
def fnExactFallenSpec : ChangeSpec := { name := "fnExactFallen", fn := fun _ => fun
  | [d1, d2] => { results := [.lit (.bool true)], args := [d1, d2] }
  | _ => none }
def fnExactFallenRow : OpenClaim := { program := "ytfakjcckgcgalaa", sum := "177605102d8bff78e4980842cdf408cb73b2ad3a0e5fae698e18926b4e290592", func := "loop.example/g00851/laws.FnExactFallen", spec := "fnExactFallen", apart := false }
def FnExactFallenSaid : Prop := fnExactFallenRow.holds Try.pinned (OpenSpec.ofChange fnExactFallenSpec)

/-- ITS FALSE NEIGHBOUR: 'it returns false'. Refute it at one input. -/
def fnExactFallenWrong : ChangeSpec := { name := "fnExactFallen", fn := fun _ => fun
  | [d1, d2] => { results := [.lit (.bool false)], args := [d1, d2] }
  | _ => none }
def FnExactFallenWrongFalsely : Prop := fnExactFallenRow.holds Try.pinned (OpenSpec.ofChange fnExactFallenWrong)

/-- 'laws.FnDiskWhole': WHATEVER THE INPUT: true; the input reads as it did. -/
def fnDiskWholeSpec : ChangeSpec := { name := "fnDiskWhole", fn := fun _ => fun
  | [d] => { results := [.lit (.bool true)], args := [d] }
  | _ => none }
def fnDiskWholeRow : OpenClaim := { program := "ytfakjcckgcgalaa", sum := "177605102d8bff78e4980842cdf408cb73b2ad3a0e5fae698e18926b4e290592", func := "loop.example/g00851/laws.FnDiskWhole", spec := "fnDiskWhole", apart := false }
def FnDiskWholeSaid : Prop := fnDiskWholeRow.holds Try.pinned (OpenSpec.ofChange fnDiskWholeSpec)

/-- ITS FALSE NEIGHBOUR: 'it returns false'. Refute it at one input. -/
def fnDiskWholeWrong : ChangeSpec := { name := "fnDiskWhole", fn := fun _ => fun
  | [d] => { results := [.lit (.bool false)], args := [d] }
  | _ => none }
def FnDiskWholeWrongFalsely : Prop := fnDiskWholeRow.holds Try.pinned (OpenSpec.ofChange fnDiskWholeWrong)

/-- 'laws.FnFallenDisk': WHATEVER THE INPUT: true; the input reads as it did. -/
def fnFallenDiskSpec : ChangeSpec := { name := "fnFallenDisk", fn := fun _ => fun
  | [d] => { results := [.lit (.bool true)], args := [d] }
  | _ => none }
def fnFallenDiskRow : OpenClaim := { program := "ytfakjcckgcgalaa", sum := "177605102d8bff78e4980842cdf408cb73b2ad3a0e5fae698e18926b4e290592", func := "loop.example/g00851/laws.FnFallenDisk", spec := "fnFallenDisk", apart := false }
def FnFallenDiskSaid : Prop := fnFallenDiskRow.holds Try.pinned (OpenSpec.ofChange fnFallenDiskSpec)

/-- ITS FALSE NEIGHBOUR: 'it returns false'. Refute it at one input. -/
def fnFallenDiskWrong : ChangeSpec := { name := "fnFallenDisk", fn := fun _ => fun
  | [d] => { results := [.lit (.bool false)], args := [d] }
  | _ => none }
def FnFallenDiskWrongFalsely : Prop := fnFallenDiskRow.holds Try.pinned (OpenSpec.ofChange fnFallenDiskWrong)

/-- 'laws.FnExactNewTwo': WHATEVER THE INPUT: true; the input reads as it did. -/
def fnExactNewTwoSpec : ChangeSpec := { name := "fnExactNewTwo", fn := fun _ => fun
  | [d] => { results := [.lit (.bool true)], args := [d] }
  | _ => none }
def fnExactNewTwoRow : OpenClaim := { program := "ytfakjcckgcgalaa", sum := "177605102d8bff78e4980842cdf408cb73b2ad3a0e5fae698e18926b4e290592", func := "loop.example/g00851/laws.FnExactNewTwo", spec := "fnExactNewTwo", apart := false }
def FnExactNewTwoSaid : Prop := fnExactNewTwoRow.holds Try.pinned (OpenSpec.ofChange fnExactNewTwoSpec)

/-- ITS FALSE NEIGHBOUR: 'it returns false'. Refute it at one input. -/
def fnExactNewTwoWrong : ChangeSpec := { name := "fnExactNewTwo", fn := fun _ => fun
  | [d] => { results := [.lit (.bool false)], args := [d] }
  | _ => none }
def FnExactNewTwoWrongFalsely : Prop := fnExactNewTwoRow.holds Try.pinned (OpenSpec.ofChange fnExactNewTwoWrong)

/-- 'laws.FnExactTwoOk': WHATEVER THE INPUT: true; the input reads as it did. -/
def fnExactTwoOkSpec : ChangeSpec := { name := "fnExactTwoOk", fn := fun _ => fun
  | [d] => { results := [.lit (.bool true)], args := [d] }
  | _ => none }
def fnExactTwoOkRow : OpenClaim := { program := "ytfakjcckgcgalaa", sum := "177605102d8bff78e4980842cdf408cb73b2ad3a0e5fae698e18926b4e290592", func := "loop.example/g00851/laws.FnExactTwoOk", spec := "fnExactTwoOk", apart := false }
def FnExactTwoOkSaid : Prop := fnExactTwoOkRow.holds Try.pinned (OpenSpec.ofChange fnExactTwoOkSpec)

/-- ITS FALSE NEIGHBOUR: 'it returns false'. Refute it at one input. -/
def fnExactTwoOkWrong : ChangeSpec := { name := "fnExactTwoOk", fn := fun _ => fun
  | [d] => { results := [.lit (.bool false)], args := [d] }
  | _ => none }
def FnExactTwoOkWrongFalsely : Prop := fnExactTwoOkRow.holds Try.pinned (OpenSpec.ofChange fnExactTwoOkWrong)

/- THE SECOND FORM. 'bulk': how many values and letters a reading holds, each counted each time it is reached (what is shared counts as often as it is met; a slice's spare places count too). A statement '..UptoSaid' is the law's where the arguments, and the package variables that the reading takes, are together of bulk at most 1048576: NARROWER than '..Said'. Prove '..Said' where nothing that the law and all that it calls make is longer than what came in: it says more and counts as full. Else prove '..UptoSaid'. A law counts once. -/
mutual
def uptoBulk {H : Type} : DataW H → Nat
  | .lit (.string bytes) => bytes.length + 1
  | .lit _ => 1
  | .nil => 1
  | .ptr d => uptoBulk d + 1
  | .slice elems spare => uptoBulkAll elems + uptoBulkAll spare + 1
  | .agg parts => uptoBulkAll parts + 1
  | .iface _ d => uptoBulk d + 1
  | .map entries => uptoBulkEntries entries + 1
  | .held _ => 1
def uptoBulkAll {H : Type} : List (DataW H) → Nat
  | [] => 0
  | d :: r => uptoBulk d + uptoBulkAll r
def uptoBulkEntries {H : Type} : List (Lit × DataW H) → Nat
  | [] => 0
  | x :: r => uptoBulkEntry x + uptoBulkEntries r
def uptoBulkEntry {H : Type} : Lit × DataW H → Nat
  | (.string bytes, d) => bytes.length + uptoBulk d + 1
  | (_, d) => uptoBulk d + 1
 end
def uptoSmall : (H : Type) → List (DataW H) → Bool := fun _ ds => decide (uptoBulkAll ds ≤ 1048576)
def OpenSpec.upto (s : _root_.Go.ChangeSpec) : _root_.Go.OpenSpec := { _root_.Go.OpenSpec.ofChange s with cond := some uptoSmall }

/-- 'laws.FnExactNewDisk', WHERE WHAT IT READS IS OF BULK AT MOST 1048576: true; the input reads as it did. -/
def fnExactNewDiskUptoRow : OpenClaim := { program := "ytfakjcckgcgalaa", sum := "177605102d8bff78e4980842cdf408cb73b2ad3a0e5fae698e18926b4e290592", func := "loop.example/g00851/laws.FnExactNewDisk", spec := "fnExactNewDisk", apart := false, narrowed := true }
def FnExactNewDiskUptoSaid : Prop := fnExactNewDiskUptoRow.holds Try.pinned (OpenSpec.upto fnExactNewDiskSpec)

/-- 'laws.FnExactDiskOk', WHERE WHAT IT READS IS OF BULK AT MOST 1048576: true; the input reads as it did. -/
def fnExactDiskOkUptoRow : OpenClaim := { program := "ytfakjcckgcgalaa", sum := "177605102d8bff78e4980842cdf408cb73b2ad3a0e5fae698e18926b4e290592", func := "loop.example/g00851/laws.FnExactDiskOk", spec := "fnExactDiskOk", apart := false, narrowed := true }
def FnExactDiskOkUptoSaid : Prop := fnExactDiskOkUptoRow.holds Try.pinned (OpenSpec.upto fnExactDiskOkSpec)

/-- 'laws.FnExactSafeIn', WHERE WHAT IT READS IS OF BULK AT MOST 1048576: true; the input reads as it did. -/
def fnExactSafeInUptoRow : OpenClaim := { program := "ytfakjcckgcgalaa", sum := "177605102d8bff78e4980842cdf408cb73b2ad3a0e5fae698e18926b4e290592", func := "loop.example/g00851/laws.FnExactSafeIn", spec := "fnExactSafeIn", apart := false, narrowed := true }
def FnExactSafeInUptoSaid : Prop := fnExactSafeInUptoRow.holds Try.pinned (OpenSpec.upto fnExactSafeInSpec)

/-- 'laws.FnExactReadAt', WHERE WHAT IT READS IS OF BULK AT MOST 1048576: true; the input reads as it did. -/
def fnExactReadAtUptoRow : OpenClaim := { program := "ytfakjcckgcgalaa", sum := "177605102d8bff78e4980842cdf408cb73b2ad3a0e5fae698e18926b4e290592", func := "loop.example/g00851/laws.FnExactReadAt", spec := "fnExactReadAt", apart := false, narrowed := true }
def FnExactReadAtUptoSaid : Prop := fnExactReadAtUptoRow.holds Try.pinned (OpenSpec.upto fnExactReadAtSpec)

/-- 'laws.FnExactRotted', WHERE WHAT IT READS IS OF BULK AT MOST 1048576: true; the input reads as it did. -/
def fnExactRottedUptoRow : OpenClaim := { program := "ytfakjcckgcgalaa", sum := "177605102d8bff78e4980842cdf408cb73b2ad3a0e5fae698e18926b4e290592", func := "loop.example/g00851/laws.FnExactRotted", spec := "fnExactRotted", apart := false, narrowed := true }
def FnExactRottedUptoSaid : Prop := fnExactRottedUptoRow.holds Try.pinned (OpenSpec.upto fnExactRottedSpec)

/-- 'laws.FnExactWrote', WHERE WHAT IT READS IS OF BULK AT MOST 1048576: true; the input reads as it did. -/
def fnExactWroteUptoRow : OpenClaim := { program := "ytfakjcckgcgalaa", sum := "177605102d8bff78e4980842cdf408cb73b2ad3a0e5fae698e18926b4e290592", func := "loop.example/g00851/laws.FnExactWrote", spec := "fnExactWrote", apart := false, narrowed := true }
def FnExactWroteUptoSaid : Prop := fnExactWroteUptoRow.holds Try.pinned (OpenSpec.upto fnExactWroteSpec)

/-- 'laws.FnExactSynced', WHERE WHAT IT READS IS OF BULK AT MOST 1048576: true; the input reads as it did. -/
def fnExactSyncedUptoRow : OpenClaim := { program := "ytfakjcckgcgalaa", sum := "177605102d8bff78e4980842cdf408cb73b2ad3a0e5fae698e18926b4e290592", func := "loop.example/g00851/laws.FnExactSynced", spec := "fnExactSynced", apart := false, narrowed := true }
def FnExactSyncedUptoSaid : Prop := fnExactSyncedUptoRow.holds Try.pinned (OpenSpec.upto fnExactSyncedSpec)

/-- 'laws.FnExactFallen', WHERE WHAT IT READS IS OF BULK AT MOST 1048576: true; the input reads as it did. -/
def fnExactFallenUptoRow : OpenClaim := { program := "ytfakjcckgcgalaa", sum := "177605102d8bff78e4980842cdf408cb73b2ad3a0e5fae698e18926b4e290592", func := "loop.example/g00851/laws.FnExactFallen", spec := "fnExactFallen", apart := false, narrowed := true }
def FnExactFallenUptoSaid : Prop := fnExactFallenUptoRow.holds Try.pinned (OpenSpec.upto fnExactFallenSpec)

/-- 'laws.FnDiskWhole', WHERE WHAT IT READS IS OF BULK AT MOST 1048576: true; the input reads as it did. -/
def fnDiskWholeUptoRow : OpenClaim := { program := "ytfakjcckgcgalaa", sum := "177605102d8bff78e4980842cdf408cb73b2ad3a0e5fae698e18926b4e290592", func := "loop.example/g00851/laws.FnDiskWhole", spec := "fnDiskWhole", apart := false, narrowed := true }
def FnDiskWholeUptoSaid : Prop := fnDiskWholeUptoRow.holds Try.pinned (OpenSpec.upto fnDiskWholeSpec)

/-- 'laws.FnFallenDisk', WHERE WHAT IT READS IS OF BULK AT MOST 1048576: true; the input reads as it did. -/
def fnFallenDiskUptoRow : OpenClaim := { program := "ytfakjcckgcgalaa", sum := "177605102d8bff78e4980842cdf408cb73b2ad3a0e5fae698e18926b4e290592", func := "loop.example/g00851/laws.FnFallenDisk", spec := "fnFallenDisk", apart := false, narrowed := true }
def FnFallenDiskUptoSaid : Prop := fnFallenDiskUptoRow.holds Try.pinned (OpenSpec.upto fnFallenDiskSpec)

/-- 'laws.FnExactNewTwo', WHERE WHAT IT READS IS OF BULK AT MOST 1048576: true; the input reads as it did. -/
def fnExactNewTwoUptoRow : OpenClaim := { program := "ytfakjcckgcgalaa", sum := "177605102d8bff78e4980842cdf408cb73b2ad3a0e5fae698e18926b4e290592", func := "loop.example/g00851/laws.FnExactNewTwo", spec := "fnExactNewTwo", apart := false, narrowed := true }
def FnExactNewTwoUptoSaid : Prop := fnExactNewTwoUptoRow.holds Try.pinned (OpenSpec.upto fnExactNewTwoSpec)

/-- 'laws.FnExactTwoOk', WHERE WHAT IT READS IS OF BULK AT MOST 1048576: true; the input reads as it did. -/
def fnExactTwoOkUptoRow : OpenClaim := { program := "ytfakjcckgcgalaa", sum := "177605102d8bff78e4980842cdf408cb73b2ad3a0e5fae698e18926b4e290592", func := "loop.example/g00851/laws.FnExactTwoOk", spec := "fnExactTwoOk", apart := false, narrowed := true }
def FnExactTwoOkUptoSaid : Prop := fnExactTwoOkUptoRow.holds Try.pinned (OpenSpec.upto fnExactTwoOkSpec)

end Rows
end Go.Proofs.Ytfakjcckgcgalaa
