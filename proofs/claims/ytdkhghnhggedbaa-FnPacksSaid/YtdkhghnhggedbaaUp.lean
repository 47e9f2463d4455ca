/- Rows: unpacked: the plain side, and the cursor. -/
import Derived.Test.YtdkhghnhggedbaaPk
set_option linter.unusedVariables false
set_option linter.unusedSimpArgs false
namespace Go.Proofs.Ytdkhghnhggedbaa
open Go.RowKit Go.Sl

/-- The rows behind k rounds, and the place. -/
def unpK (row : List Int) : Nat → Option (List (List Int) × Nat)
  | 0 => some ([], 1)
  | k + 1 => match unpK row k with
    | none => none
    | some (o, t) => if t < row.length ∧ row.getD t 0 ≤ (row.length : Int) - t - 1 then some (o ++ [(row.drop (t + 1)).take (row.getD t 0).toNat], t + 1 + (row.getD t 0).toNat) else none
def unpacked (row : List Int) : List (List Int) × Bool :=
  if rowOk row = true ∧ 0 < row.length then
    (match unpK row (row.getD 0 0).toNat with
    | some (o, t) => if t = row.length then (o, true) else ([], false)
    | none => ([], false))
  else ([], false)
theorem unpK_none {row : List Int} {k m : Nat} (h : unpK row k = none) (hm : k ≤ m) : unpK row m = none := by
  induction m with
  | zero => rw [Nat.le_zero.1 hm] at h; exact h
  | succ m ih =>
    by_cases e : k = m + 1
    · rw [← e]; exact h
    · rw [unpK, ih (by omega)]
theorem unpK_len {row : List Int} {k : Nat} {o : List (List Int)} {t : Nat} (h : unpK row k = some (o, t)) (hp : 0 < row.length) : o.length = k ∧ k + 1 ≤ t ∧ t ≤ row.length := by
  induction k generalizing o t with
  | zero => cases h; exact ⟨rfl, by omega, hp⟩
  | succ k ih =>
    rw [unpK] at h
    cases hk : unpK row k with
    | none => rw [hk] at h; cases h
    | some q =>
      obtain ⟨o', t'⟩ := q
      obtain ⟨h1, h2, h3⟩ := ih hk
      rw [hk] at h
      dsimp only at h
      split at h
      · rename_i hc
        cases h
        exact ⟨by simp [h1], by omega, by omega⟩
      · cases h
theorem unpK_step {row : List Int} {k : Nat} {o : List (List Int)} {t : Nat} {z : Nat} (h : unpK row k = some (o, t)) (h1 : t < row.length) (hz : row.getD t 0 = z) (h2 : (z : Int) ≤ (row.length : Int) - t - 1) : unpK row (k + 1) = some (o ++ [(row.drop (t + 1)).take z], t + 1 + z) := by
  rw [unpK, h]
  dsimp only
  rw [if_pos ⟨h1, by rw [hz]; exact h2⟩, hz, Int.toNat_natCast]
theorem unpK_fail {row : List Int} {k : Nat} {o : List (List Int)} {t : Nat} (h : unpK row k = some (o, t)) (h1 : ¬ (t < row.length ∧ row.getD t 0 ≤ (row.length : Int) - t - 1)) : unpK row (k + 1) = none := by
  rw [unpK, h]
  dsimp only
  rw [if_neg h1]
theorem unp_fail {row : List Int} {k : Nat} {o : List (List Int)} {t n : Nat} (h : unpK row k = some (o, t)) (hn : row.getD 0 0 = n) (hk : k < n) (h1 : ¬ (t < row.length ∧ row.getD t 0 ≤ (row.length : Int) - t - 1)) : unpacked row = ([], false) := by
  unfold unpacked
  rw [hn, Int.toNat_natCast, unpK_none (unpK_fail h h1) hk]
  split <;> rfl
theorem unp_end {row : List Int} {o : List (List Int)} {t n : Nat} (h : unpK row n = some (o, t)) (hr : rowOk row = true) (hp : 0 < row.length) (hn : row.getD 0 0 = n) : unpacked row = if t = row.length then (o, true) else ([], false) := by
  unfold unpacked
  rw [if_pos ⟨hr, hp⟩, hn, Int.toNat_natCast, h]
theorem unp_no {row : List Int} (h : ¬ (rowOk row = true ∧ 0 < row.length)) : unpacked row = ([], false) := by unfold unpacked; rw [if_neg h]

theorem row_zeroV (w : World) (a : Option Addr) (c : Nat) (hc : c ≤ 9223372036854775807) : rowC.V w [.slice a 0 c] [] := ⟨a, c, [], rfl, Nat.zero_le _, by simpa [maxLen] using hc, fun j u hj => by simp at hj, rfl⟩
theorem row_zeroV2 (w : World) (a : Option Addr) (c z : Nat) (l : List Int) (hc : c ≤ 9223372036854775807) (hz : z = 0) : rowC.V w [.slice a z c] (l.take z) := by
  subst hz
  rw [List.take_zero]
  exact row_zeroV w a c hc
/-- A part of a row. -/
theorem row_part {w : World} {b off n cap lo m : Nat} {l : List Int} (h : rowC.V w [.slice (some ⟨b, off, none⟩) n cap] l) (h1 : lo + m ≤ l.length) : rowC.V w [.slice (some ⟨b, off + lo, none⟩) m (cap - lo)] ((l.drop lo).take m) := by
  obtain ⟨a', cap', e, g1, g2, hc⟩ := row_cells h
  cases e
  have hl : ((l.drop lo).take m).length = m := by rw [List.length_take, List.length_drop]; omega
  refine ⟨_, cap - lo, _, by rw [hl], by rw [hl]; omega, by simp only [maxLen]; omega, ?_, elemsV_int.2 rfl⟩
  intro j u hj
  rw [List.map_take, List.map_drop, List.getElem?_take] at hj
  split at hj
  · rw [List.getElem?_drop] at hj
    obtain ⟨b', o', e, hcell⟩ := hc (lo + j) u hj
    cases e
    exact ⟨b, off + lo, rfl, by rw [Nat.add_assoc]; exact hcell⟩
  · cases hj
theorem rows_empty (w : World) (E : TypeId) (lo : Nat) (h : lo ≤ w.heap.size) : rowsC.own lo (w.alloc (.cells #[] E)).heap.size (w.alloc (.cells #[] E)) [.slice (some ⟨w.heap.size, 0, none⟩) 0 0] [] :=
  ⟨[w.heap.size], ⟨_, 0, [], [], rfl, Nat.le_refl _, Nat.zero_le _, SlAt.lit w #[] E 1 0 rfl, ⟨rfl, rfl⟩, rfl⟩, by simp, fun b hb => by rw [List.mem_singleton.1 hb]; simp; omega⟩
theorem getD_of {l : List Int} {k : Nat} {x : Int} (h : Hid (l[k]? = some x)) : l.getD k 0 = x := by rw [List.getD_eq_getElem?_getD, h.out]; rfl

end Go.Proofs.Ytdkhghnhggedbaa
