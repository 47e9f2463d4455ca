/- How the arguments of the laws read. -/
import Derived.Test.YtbapomhoipdanaaRows
import Derived.Test.YtbapomhoipdanaaDice
import Derived.Test.YtbapomhoipdanaaRow4
import Derived.Test.YtbapomhoipdanaaTop
set_option linter.unusedVariables false
set_option linter.unusedSimpArgs false
namespace Go.Proofs.Ytbapomhoipdanaa
open Go.RowKit Go.Sl

set_option maxRecDepth 100000 in
theorem Try.own : ownKnob Try.prog.godebug = none := by kernel_rfl
set_option maxRecDepth 100000 in
theorem Try.laidOut : laidOutB Try.prog = true := by kernel_rfl
set_option maxRecDepth 100000 in
theorem tiedRow : Tied Try.prog (sliceC intC) 44 := Tied.slice Try.underlying44 rfl (by decide) (Tied.int Try.underlying2)
theorem row_len {w : World} {v : Value} {l : List Int} (h : rowC.V w [v] l) : ∃ a cap, v = .slice a l.length cap ∧ l.length ≤ cap ∧ cap ≤ 9223372036854775807 :=
  let ⟨a, cap, h1, h2, h3, _⟩ := row_open h; ⟨a, cap, h1, h2, h3⟩
theorem unsum_len (l : List Int) : (unsum l).1.length ≤ l.length := by
  unfold unsum
  split <;> simp

theorem withSum_len (l : List Int) : (withSum l).length ≤ 48 := by
  unfold withSum
  split
  · rename_i h; simp at h; simp; omega
  · simp

end Go.Proofs.Ytbapomhoipdanaa
