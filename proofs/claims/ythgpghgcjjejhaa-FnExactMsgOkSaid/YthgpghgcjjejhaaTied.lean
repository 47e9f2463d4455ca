/- How the arguments of the laws read. -/
import Derived.Test.YthgpghgcjjejhaaRows
import Derived.Test.YthgpghgcjjejhaaDice
import Derived.Test.YthgpghgcjjejhaaRow3
import Derived.Test.YthgpghgcjjejhaaTop
set_option linter.unusedVariables false
set_option linter.unusedSimpArgs false
namespace Go.Proofs.Ythgpghgcjjejhaa
open Go.RowKit Go.Sl

theorem Try.own : ownKnob Try.prog.godebug = none := by kernel_rfl
theorem Try.laidOut : laidOutB Try.prog = true := by kernel_rfl
theorem tiedRow : Tied Try.prog (sliceC intC) 34 := Tied.slice Try.underlying34 rfl (by decide) (Tied.int Try.underlying2)
theorem row_len {w : World} {v : Value} {l : List Int} (h : rowC.V w [v] l) : ∃ a cap, v = .slice a l.length cap ∧ l.length ≤ cap ∧ cap ≤ 9223372036854775807 :=
  let ⟨a, cap, h1, h2, h3, _⟩ := row_open h; ⟨a, cap, h1, h2, h3⟩
theorem tiedDice : Tied Try.prog intC 25 := Tied.struct1 Try.underlying25 rfl rfl rfl (Tied.int Try.underlying2)
theorem arg_dice {W : World} {v : Value} (h : ArgOk Try.prog W 25 v) : ∃ s, v = dice s := by
  obtain ⟨cs, x, rfl, hx⟩ := h.struct Try.underlying25 tiedDice
  exact ⟨x, by rw [show cs = [.int .i64 x] from hx]⟩
theorem withSum_len (l : List Int) : (withSum l).length ≤ 48 := by
  unfold withSum
  split
  · rename_i h; simp at h; simp; omega
  · simp

end Go.Proofs.Ythgpghgcjjejhaa
