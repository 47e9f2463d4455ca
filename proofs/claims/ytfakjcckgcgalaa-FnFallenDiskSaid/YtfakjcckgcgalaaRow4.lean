/- Rows: Unsummed, and what packs them. -/
import Derived.Test.YtfakjcckgcgalaaRow3
set_option linter.unusedVariables false
set_option linter.unusedSimpArgs false
namespace Go.Proofs.Ytfakjcckgcgalaa
open Go.RowKit Go.Sl

def unsum (l : List Int) : List Int × Bool := if rowOk l && !l.isEmpty && decide (chk l.dropLast = l.getLastD 0) then (l.dropLast, true) else ([], false)

theorem unsum_snoc (m : List Int) (x : Int) : unsum (m ++ [x]) = if rowOk (m ++ [x]) && decide (chk m = x) then (m, true) else ([], false) := by
  simp [unsum]

theorem unsum_nil : unsum [] = ([], false) := by simp [unsum]

theorem rowOk_pre {m r : List Int} (h : rowOk (m ++ r) = true) : rowOk m = true := by
  simp only [rowOk, Bool.and_eq_true, decide_eq_true_eq, List.all_eq_true, List.length_append] at h ⊢
  exact ⟨by omega, fun x hx => h.2 x (List.mem_append_left _ hx)⟩

theorem row_snoc_open {w : World} {v : Value} {m : List Int} {x : Int} (h : rowC.V w [v] (m ++ [x])) :
    ∃ b off cap, v = .slice (some ⟨b, off, none⟩) (m.length + 1) cap ∧ m.length + 1 ≤ cap ∧ cap ≤ 9223372036854775807 ∧ w.cell? ⟨b, off + m.length, none⟩ = some (.int .i64 x) ∧ rowC.V w [.slice (some ⟨b, off, none⟩) m.length cap] m := by
  obtain ⟨a, cap, rfl, h1, h2, hc⟩ := row_open h
  obtain ⟨b, off, y, rfl, hcell, hy⟩ := hc m.length (by simp)
  have hy' := hy.out
  simp at hy'
  subst hy'
  have hp := row_pre (k := m.length) h (by simp)
  rw [List.take_left] at hp
  exact ⟨b, off, cap, by simp, by simpa using h1, h2, hcell, hp⟩

theorem snoc_of {l : List Int} (h : 0 < l.length) : ∃ m x, l = m ++ [x] := by
  refine ⟨l.dropLast, l.getLast (by intro e; subst e; simp at h), ?_⟩
  rw [List.dropLast_concat_getLast]



end Go.Proofs.Ytfakjcckgcgalaa
