/-
  No cell of these rows narrows 'for every input' (looked for: loops, veiled, ifaces, maps, wideKeys, modest, calm, conditions, laid).
  DERIVED. THE GIVEN ROWS OF THIS SEAT. 8 by the template 'for every input the law returns true; each argument reads behind the call as it read before'; 0 by the template 'total and deterministic' (their statements: YtbapomhoipdanaaTotals.lean).
  GIVEN WITH THE SEED: the statements are not yours to turn. If you find one false, say at which input.
  Laid BY PROGRAM, IN A SANDBOX (cutbox-rows.mjs): the forced cells as the released guide's own fill.sh prints them over the translation 274eaa498b5b590a… (all of the seat's roots in one cut). By AI agents, Wed Nov 11 2026. No macro, syntax, notation, axiom, sorry.
-/
import Derived.Test.YtbapomhoipdanaaChecked
import GoSem.Claim
import GoSem.ClaimJoined
import GoSem.ClaimMapViews
import Derived.JoinedTies
import Derived.KernelRfl
namespace Go.Proofs.Ytbapomhoipdanaa
/- THE CELL 'sum', in the pinned program and in every row, IS THE sha256 OF THE DUMP (.gsa) THAT YtbapomhoipdanaaProg.lean LOADS. Nothing in Lean hashes anything: it is a label: what it is worth is what the hold of that sum in a sandbox is worth. -/
noncomputable def Try.pinned : Pinned := { name := "ytbapomhoipdanaa", sum := "274eaa498b5b590a158917a33ef6013009435b3158d913f6148018b791945d09", checked := Try.checked }
namespace Rows
def none {H : Type} : Left H := { results := [], args := [] }

/-- 'laws.FnExactEqualIn': WHATEVER THE INPUT: true; the input reads as it did. -/
def fnExactEqualInSpec : ChangeSpec := { name := "fnExactEqualIn", fn := fun _ => fun
  | [d] => { results := [.lit (.bool true)], args := [d] }
  | _ => none }
def fnExactEqualInRow : OpenClaim := { program := "ytbapomhoipdanaa", sum := "274eaa498b5b590a158917a33ef6013009435b3158d913f6148018b791945d09", func := "loop.example/g00851/laws.FnExactEqualIn", spec := "fnExactEqualIn", apart := false }
def FnExactEqualInSaid : Prop := fnExactEqualInRow.holds Try.pinned (OpenSpec.ofChange fnExactEqualInSpec)

/-- ITS FALSE NEIGHBOUR: 'it returns false'. Refute it at one input. -/
def fnExactEqualInWrong : ChangeSpec := { name := "fnExactEqualIn", fn := fun _ => fun
  | [d] => { results := [.lit (.bool false)], args := [d] }
  | _ => none }
def FnExactEqualInWrongFalsely : Prop := fnExactEqualInRow.holds Try.pinned (OpenSpec.ofChange fnExactEqualInWrong)

/-- 'laws.FnExactRightAt': WHATEVER THE INPUT: true; the input reads as it did. -/
def fnExactRightAtSpec : ChangeSpec := { name := "fnExactRightAt", fn := fun _ => fun
  | [d1, d2] => { results := [.lit (.bool true)], args := [d1, d2] }
  | _ => none }
def fnExactRightAtRow : OpenClaim := { program := "ytbapomhoipdanaa", sum := "274eaa498b5b590a158917a33ef6013009435b3158d913f6148018b791945d09", func := "loop.example/g00851/laws.FnExactRightAt", spec := "fnExactRightAt", apart := false }
def FnExactRightAtSaid : Prop := fnExactRightAtRow.holds Try.pinned (OpenSpec.ofChange fnExactRightAtSpec)

/-- ITS FALSE NEIGHBOUR: 'it returns false'. Refute it at one input. -/
def fnExactRightAtWrong : ChangeSpec := { name := "fnExactRightAt", fn := fun _ => fun
  | [d1, d2] => { results := [.lit (.bool false)], args := [d1, d2] }
  | _ => none }
def FnExactRightAtWrongFalsely : Prop := fnExactRightAtRow.holds Try.pinned (OpenSpec.ofChange fnExactRightAtWrong)

/-- 'laws.FnExactBothSynced': WHATEVER THE INPUT: true; the input reads as it did. -/
def fnExactBothSyncedSpec : ChangeSpec := { name := "fnExactBothSynced", fn := fun _ => fun
  | [d] => { results := [.lit (.bool true)], args := [d] }
  | _ => none }
def fnExactBothSyncedRow : OpenClaim := { program := "ytbapomhoipdanaa", sum := "274eaa498b5b590a158917a33ef6013009435b3158d913f6148018b791945d09", func := "loop.example/g00851/laws.FnExactBothSynced", spec := "fnExactBothSynced", apart := false }
def FnExactBothSyncedSaid : Prop := fnExactBothSyncedRow.holds Try.pinned (OpenSpec.ofChange fnExactBothSyncedSpec)

/-- ITS FALSE NEIGHBOUR: 'it returns false'. Refute it at one input. -/
def fnExactBothSyncedWrong : ChangeSpec := { name := "fnExactBothSynced", fn := fun _ => fun
  | [d] => { results := [.lit (.bool false)], args := [d] }
  | _ => none }
def FnExactBothSyncedWrongFalsely : Prop := fnExactBothSyncedRow.holds Try.pinned (OpenSpec.ofChange fnExactBothSyncedWrong)

/-- 'laws.FnExactBothWrote': WHATEVER THE INPUT: true; the input reads as it did. -/
def fnExactBothWroteSpec : ChangeSpec := { name := "fnExactBothWrote", fn := fun _ => fun
  | [d1, d2, d3] => { results := [.lit (.bool true)], args := [d1, d2, d3] }
  | _ => none }
def fnExactBothWroteRow : OpenClaim := { program := "ytbapomhoipdanaa", sum := "274eaa498b5b590a158917a33ef6013009435b3158d913f6148018b791945d09", func := "loop.example/g00851/laws.FnExactBothWrote", spec := "fnExactBothWrote", apart := false }
def FnExactBothWroteSaid : Prop := fnExactBothWroteRow.holds Try.pinned (OpenSpec.ofChange fnExactBothWroteSpec)

/-- ITS FALSE NEIGHBOUR: 'it returns false'. Refute it at one input. -/
def fnExactBothWroteWrong : ChangeSpec := { name := "fnExactBothWrote", fn := fun _ => fun
  | [d1, d2, d3] => { results := [.lit (.bool false)], args := [d1, d2, d3] }
  | _ => none }
def FnExactBothWroteWrongFalsely : Prop := fnExactBothWroteRow.holds Try.pinned (OpenSpec.ofChange fnExactBothWroteWrong)

/-- 'laws.FnExactBothFallen': WHATEVER THE INPUT: true; the input reads as it did. -/
def fnExactBothFallenSpec : ChangeSpec := { name := "fnExactBothFallen", fn := fun _ => fun
  | [d1, d2] => { results := [.lit (.bool true)], args := [d1, d2] }
  | _ => none }
def fnExactBothFallenRow : OpenClaim := { program := "ytbapomhoipdanaa", sum := "274eaa498b5b590a158917a33ef6013009435b3158d913f6148018b791945d09", func := "loop.example/g00851/laws.FnExactBothFallen", spec := "fnExactBothFallen", apart := false }
def FnExactBothFallenSaid : Prop := fnExactBothFallenRow.holds Try.pinned (OpenSpec.ofChange fnExactBothFallenSpec)

/-- ITS FALSE NEIGHBOUR: 'it returns false'. Refute it at one input. -/
def fnExactBothFallenWrong : ChangeSpec := { name := "fnExactBothFallen", fn := fun _ => fun
  | [d1, d2] => { results := [.lit (.bool false)], args := [d1, d2] }
  | _ => none }
def FnExactBothFallenWrongFalsely : Prop := fnExactBothFallenRow.holds Try.pinned (OpenSpec.ofChange fnExactBothFallenWrong)

/-- 'laws.FnExactMendedAt': WHATEVER THE INPUT: true; the input reads as it did. -/
def fnExactMendedAtSpec : ChangeSpec := { name := "fnExactMendedAt", fn := fun _ => fun
  | [d1, d2, d3] => { results := [.lit (.bool true)], args := [d1, d2, d3] }
  | _ => none }
def fnExactMendedAtRow : OpenClaim := { program := "ytbapomhoipdanaa", sum := "274eaa498b5b590a158917a33ef6013009435b3158d913f6148018b791945d09", func := "loop.example/g00851/laws.FnExactMendedAt", spec := "fnExactMendedAt", apart := false }
def FnExactMendedAtSaid : Prop := fnExactMendedAtRow.holds Try.pinned (OpenSpec.ofChange fnExactMendedAtSpec)

/-- ITS FALSE NEIGHBOUR: 'it returns false'. Refute it at one input. -/
def fnExactMendedAtWrong : ChangeSpec := { name := "fnExactMendedAt", fn := fun _ => fun
  | [d1, d2, d3] => { results := [.lit (.bool false)], args := [d1, d2, d3] }
  | _ => none }
def FnExactMendedAtWrongFalsely : Prop := fnExactMendedAtRow.holds Try.pinned (OpenSpec.ofChange fnExactMendedAtWrong)

/-- 'laws.FnMirrorFalls': WHATEVER THE INPUT: true; the input reads as it did. -/
def fnMirrorFallsSpec : ChangeSpec := { name := "fnMirrorFalls", fn := fun _ => fun
  | [d] => { results := [.lit (.bool true)], args := [d] }
  | _ => none }
def fnMirrorFallsRow : OpenClaim := { program := "ytbapomhoipdanaa", sum := "274eaa498b5b590a158917a33ef6013009435b3158d913f6148018b791945d09", func := "loop.example/g00851/laws.FnMirrorFalls", spec := "fnMirrorFalls", apart := false }
def FnMirrorFallsSaid : Prop := fnMirrorFallsRow.holds Try.pinned (OpenSpec.ofChange fnMirrorFallsSpec)

/-- ITS FALSE NEIGHBOUR: 'it returns false'. Refute it at one input. -/
def fnMirrorFallsWrong : ChangeSpec := { name := "fnMirrorFalls", fn := fun _ => fun
  | [d] => { results := [.lit (.bool false)], args := [d] }
  | _ => none }
def FnMirrorFallsWrongFalsely : Prop := fnMirrorFallsRow.holds Try.pinned (OpenSpec.ofChange fnMirrorFallsWrong)

/-- 'laws.FnMirror': WHATEVER THE INPUT: true; the input reads as it did. -/
def fnMirrorSpec : ChangeSpec := { name := "fnMirror", fn := fun _ => fun
  | [d] => { results := [.lit (.bool true)], args := [d] }
  | _ => none }
def fnMirrorRow : OpenClaim := { program := "ytbapomhoipdanaa", sum := "274eaa498b5b590a158917a33ef6013009435b3158d913f6148018b791945d09", func := "loop.example/g00851/laws.FnMirror", spec := "fnMirror", apart := false }
def FnMirrorSaid : Prop := fnMirrorRow.holds Try.pinned (OpenSpec.ofChange fnMirrorSpec)

/-- ITS FALSE NEIGHBOUR: 'it returns false'. Refute it at one input. -/
def fnMirrorWrong : ChangeSpec := { name := "fnMirror", fn := fun _ => fun
  | [d] => { results := [.lit (.bool false)], args := [d] }
  | _ => none }
def FnMirrorWrongFalsely : Prop := fnMirrorRow.holds Try.pinned (OpenSpec.ofChange fnMirrorWrong)

/- THE SECOND FORM. 'bulk': how many values and letters a reading holds, each counted each time it is reached (what is shared counts as often as it is met; a slice's spare places count too). A statement '..UptoSaid' is the law's where the arguments, and the package variables that the reading takes, are together of bulk at most 1048576: NARROWER than '..Said'. Prove '..Said' where nothing that the law and all that it calls make is longer than what came in: it says more and counts as full. Else prove '..UptoSaid'. A law counts once. -/
mutual
def uptoBulk {H : Type} : DataW H → Nat
  | .lit (.string bytes) => bytes.length + 1
  | .lit _ => 1
  | .nil => 1
  | .ptr d => uptoBulk d + 1
  | .slice elems spare => uptoBulkAll elems + uptoBulkAll spare + 1
  | .agg parts => uptoBulkAll parts + 1
  | .iface _ d => uptoBulk d + 1
  | .map entries => uptoBulkEntries entries + 1
  | .held _ => 1
def uptoBulkAll {H : Type} : List (DataW H) → Nat
  | [] => 0
  | d :: r => uptoBulk d + uptoBulkAll r
def uptoBulkEntries {H : Type} : List (Lit × DataW H) → Nat
  | [] => 0
  | x :: r => uptoBulkEntry x + uptoBulkEntries r
def uptoBulkEntry {H : Type} : Lit × DataW H → Nat
  | (.string bytes, d) => bytes.length + uptoBulk d + 1
  | (_, d) => uptoBulk d + 1
 end
def uptoSmall : (H : Type) → List (DataW H) → Bool := fun _ ds => decide (uptoBulkAll ds ≤ 1048576)
def OpenSpec.upto (s : _root_.Go.ChangeSpec) : _root_.Go.OpenSpec := { _root_.Go.OpenSpec.ofChange s with cond := some uptoSmall }

/-- 'laws.FnExactEqualIn', WHERE WHAT IT READS IS OF BULK AT MOST 1048576: true; the input reads as it did. -/
def fnExactEqualInUptoRow : OpenClaim := { program := "ytbapomhoipdanaa", sum := "274eaa498b5b590a158917a33ef6013009435b3158d913f6148018b791945d09", func := "loop.example/g00851/laws.FnExactEqualIn", spec := "fnExactEqualIn", apart := false, narrowed := true }
def FnExactEqualInUptoSaid : Prop := fnExactEqualInUptoRow.holds Try.pinned (OpenSpec.upto fnExactEqualInSpec)

/-- 'laws.FnExactRightAt', WHERE WHAT IT READS IS OF BULK AT MOST 1048576: true; the input reads as it did. -/
def fnExactRightAtUptoRow : OpenClaim := { program := "ytbapomhoipdanaa", sum := "274eaa498b5b590a158917a33ef6013009435b3158d913f6148018b791945d09", func := "loop.example/g00851/laws.FnExactRightAt", spec := "fnExactRightAt", apart := false, narrowed := true }
def FnExactRightAtUptoSaid : Prop := fnExactRightAtUptoRow.holds Try.pinned (OpenSpec.upto fnExactRightAtSpec)

/-- 'laws.FnExactBothSynced', WHERE WHAT IT READS IS OF BULK AT MOST 1048576: true; the input reads as it did. -/
def fnExactBothSyncedUptoRow : OpenClaim := { program := "ytbapomhoipdanaa", sum := "274eaa498b5b590a158917a33ef6013009435b3158d913f6148018b791945d09", func := "loop.example/g00851/laws.FnExactBothSynced", spec := "fnExactBothSynced", apart := false, narrowed := true }
def FnExactBothSyncedUptoSaid : Prop := fnExactBothSyncedUptoRow.holds Try.pinned (OpenSpec.upto fnExactBothSyncedSpec)

/-- 'laws.FnExactBothWrote', WHERE WHAT IT READS IS OF BULK AT MOST 1048576: true; the input reads as it did. -/
def fnExactBothWroteUptoRow : OpenClaim := { program := "ytbapomhoipdanaa", sum := "274eaa498b5b590a158917a33ef6013009435b3158d913f6148018b791945d09", func := "loop.example/g00851/laws.FnExactBothWrote", spec := "fnExactBothWrote", apart := false, narrowed := true }
def FnExactBothWroteUptoSaid : Prop := fnExactBothWroteUptoRow.holds Try.pinned (OpenSpec.upto fnExactBothWroteSpec)

/-- 'laws.FnExactBothFallen', WHERE WHAT IT READS IS OF BULK AT MOST 1048576: true; the input reads as it did. -/
def fnExactBothFallenUptoRow : OpenClaim := { program := "ytbapomhoipdanaa", sum := "274eaa498b5b590a158917a33ef6013009435b3158d913f6148018b791945d09", func := "loop.example/g00851/laws.FnExactBothFallen", spec := "fnExactBothFallen", apart := false, narrowed := true }
def FnExactBothFallenUptoSaid : Prop := fnExactBothFallenUptoRow.holds Try.pinned (OpenSpec.upto fnExactBothFallenSpec)

/-- 'laws.FnExactMendedAt', WHERE WHAT IT READS IS OF BULK AT MOST 1048576: true; the input reads as it did. -/
def fnExactMendedAtUptoRow : OpenClaim := { program := "ytbapomhoipdanaa", sum := "274eaa498b5b590a158917a33ef6013009435b3158d913f6148018b791945d09", func := "loop.example/g00851/laws.FnExactMendedAt", spec := "fnExactMendedAt", apart := false, narrowed := true }
def FnExactMendedAtUptoSaid : Prop := fnExactMendedAtUptoRow.holds Try.pinned (OpenSpec.upto fnExactMendedAtSpec)

/-- 'laws.FnMirrorFalls', WHERE WHAT IT READS IS OF BULK AT MOST 1048576: true; the input reads as it did. -/
def fnMirrorFallsUptoRow : OpenClaim := { program := "ytbapomhoipdanaa", sum := "274eaa498b5b590a158917a33ef6013009435b3158d913f6148018b791945d09", func := "loop.example/g00851/laws.FnMirrorFalls", spec := "fnMirrorFalls", apart := false, narrowed := true }
def FnMirrorFallsUptoSaid : Prop := fnMirrorFallsUptoRow.holds Try.pinned (OpenSpec.upto fnMirrorFallsSpec)

/-- 'laws.FnMirror', WHERE WHAT IT READS IS OF BULK AT MOST 1048576: true; the input reads as it did. -/
def fnMirrorUptoRow : OpenClaim := { program := "ytbapomhoipdanaa", sum := "274eaa498b5b590a158917a33ef6013009435b3158d913f6148018b791945d09", func := "loop.example/g00851/laws.FnMirror", spec := "fnMirror", apart := false, narrowed := true }
def FnMirrorUptoSaid : Prop := fnMirrorUptoRow.holds Try.pinned (OpenSpec.upto fnMirrorSpec)

end Rows
end Go.Proofs.Ytbapomhoipdanaa
