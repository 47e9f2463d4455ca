/- Dice: generators. -/
import Derived.Test.YtbapomhoipdanaaRow2
set_option linter.unusedVariables false
set_option linter.unusedSimpArgs false
namespace Go.Proofs.Ytbapomhoipdanaa
open Go.RowKit Go.Sl

def diceOk (s : Int) : Bool := inB s 0 999999936
def stepD (s : Int) : Int := (48271 * s + 11) % 999999937
def rolled (s : Int) : Int × Int := if diceOk s then (stepD s, stepD s) else (0, 0)
def under (s n : Int) : Int × Int := if diceOk s then (if inB n 1 1000000000 then (stepD s, stepD s % n) else (s, 0)) else (0, 0)
abbrev dice (s : Int) : Value := .agg #[.int .i64 s]

theorem diceOk_bd {s : Int} (h : diceOk s = true) : 0 ≤ s ∧ s ≤ 999999936 := inB_bd h
theorem stepD_bd (s : Int) : 0 ≤ stepD s ∧ stepD s ≤ 999999936 := by unfold stepD; omega
theorem stepD_ok (s : Int) : diceOk (stepD s) = true := by have := stepD_bd s; simp [diceOk, inB]; omega














end Go.Proofs.Ytbapomhoipdanaa
