/- Two disks: what their functions compute. Plain definitions and laws. -/
import Derived.Test.YtbapomhoipdanaaTw
import Derived.Test.YtbapomhoipdanaaRow4
import Derived.Test.YtbapomhoipdanaaWo
import Derived.Test.YtbapomhoipdanaaFl3
import Derived.Test.YtbapomhoipdanaaDk4
set_option linter.unusedVariables false
set_option linter.unusedSimpArgs false
namespace Go.Proofs.Ytbapomhoipdanaa
open Go.RowKit Go.Sl

def noTwo : TwoD := (([], []), ([], []))
def bothWrote (t : TwoD) (n : Int) (row : List Int) : TwoD × Bool :=
  if twoOk t = true then
    (if (withSum row).length ≠ 0 ∧ (wrote t.1 n (withSum row)).2 = true ∧ (wrote t.2 n (withSum row)).2 = true then (((wrote t.1 n (withSum row)).1, (wrote t.2 n (withSum row)).1), true) else (t, false))
  else (noTwo, false)
def bothSynced (t : TwoD) : TwoD := if twoOk t = true then (synced t.1, synced t.2) else noTwo
/-- Every other one of the first k numbers, from number p on. -/
def altK (p : Nat) (l : List Int) : Nat → List Int
  | 0 => []
  | k + 1 => if k % 2 = p then altK p l k ++ [l.getD k 0] else altK p l k
def bothFallen (t : TwoD) (fates : List Int) : TwoD := if twoOk t = true then (fallen t.1 (altK 0 fates fates.length), fallen t.2 (altK 1 fates fates.length)) else noTwo
def rightAt (t : TwoD) (n : Int) : List (List Int) :=
  if twoOk t = true ∧ inB n 0 ((t.1.1.length : Int) - 1) = true then
    (if (unsum (readAt t.1 n).1).2 = true then [(unsum (readAt t.1 n).1).1] else []) ++
    (if (unsum (readAt t.2 n).1).2 = true ∧ ¬ ((unsum (readAt t.1 n).1).2 = true ∧ (unsum (readAt t.1 n).1).1 = (unsum (readAt t.2 n).1).1) then [(unsum (readAt t.2 n).1).1] else [])
  else []
def mendedAt (t : TwoD) (n : Int) (row : List Int) : TwoD := if (bothWrote t n row).2 = true then bothSynced (bothWrote t n row).1 else (bothWrote t n row).1
def equalIn (t : TwoD) : Bool := twoOk t && safeIn t.1 && safeIn t.2 && decide (t.1.1 = t.2.1)

theorem altK_len (p : Nat) (hp : p < 2) (l : List Int) (n : Nat) : (altK p l n).length = (n + 1 - p) / 2 := by
  induction n with
  | zero => simp [altK]; omega
  | succ n ih =>
    rw [altK]
    split
    · rw [List.length_append, ih]; simp; omega
    · rw [ih]; omega
theorem altK_get (p : Nat) (hp : p < 2) (l : List Int) (n k : Nat) : (altK p l n).getD k 0 = if p + 2 * k < n then l.getD (p + 2 * k) 0 else 0 := by
  induction n with
  | zero => simp [altK]
  | succ n ih =>
    have hl := altK_len p hp l n
    rw [altK]
    split
    · rename_i h
      by_cases hk : k < (altK p l n).length
      · rw [List.getD_eq_getElem?_getD, List.getElem?_append_left hk, ← List.getD_eq_getElem?_getD, ih, if_pos (by omega), if_pos (by omega)]
      · rw [List.getD_eq_getElem?_getD, List.getElem?_append_right (by omega)]
        by_cases he : k = (altK p l n).length
        · have : p + 2 * k = n := by omega
          rw [if_pos (by omega), this, he, Nat.sub_self]; rfl
        · rw [if_neg (by omega), List.getElem?_eq_none (by simp; omega)]; rfl
    · rename_i h
      rw [ih]
      by_cases hk : p + 2 * k < n
      · rw [if_pos hk, if_pos (by omega)]
      · rw [if_neg hk, if_neg (by omega)]

theorem fallK_congr {f g : Nat → Int} {ks : List (List Int)} {ws : List WriteD} {k : Nat} (h : ∀ i, i < k → f i = g i) : fallK f ks ws k = fallK g ks ws k := by
  induction k with
  | zero => rfl
  | succ k ih => rw [fallK, fallK, ih (fun i hi => h i (by omega)), h k (by omega)]
theorem getD_out {l : List Int} {k : Nat} (h : l.length ≤ k) : l.getD k 0 = 0 := by
  rw [List.getD_eq_getElem?_getD, List.getElem?_eq_none h]; rfl
/-- More than sixty fates are none. -/
theorem fallen_alt {d : DiskD} {p : Nat} (hp : p < 2) (fates : List Int) (m : Nat) (hm : fates.length ≤ m ∨ m = p + 120) : fallen d (altK p fates m) = fallen d (altK p fates fates.length) := by
  unfold fallen
  split
  · rename_i h
    obtain ⟨rs, ws⟩ := d
    obtain ⟨_, _, _, _, h5⟩ := diskOk_parts h
    unfold fallD
    dsimp only
    rw [fallK_congr]
    intro i hi
    unfold fateOf
    simp only [Bool.false_eq_true, if_false]
    rw [altK_get p hp, altK_get p hp]
    by_cases h1 : p + 2 * i < fates.length
    · rw [if_pos h1, if_pos (by omega)]
    · rw [if_neg h1]
      split
      · exact getD_out (by omega)
      · rfl
  · rfl

theorem rightAt_no {t : TwoD} {n : Int} (h : ¬ (twoOk t = true ∧ inB n 0 ((t.1.1.length : Int) - 1) = true)) : rightAt t n = [] := by unfold rightAt; rw [if_neg h]
theorem twoOk_parts {t : TwoD} (h : twoOk t = true) : diskOk t.1 = true ∧ diskOk t.2 = true ∧ t.1.1.length = t.2.1.length := by
  simpa [twoOk, and_assoc] using h
theorem equal_rows {a b : List (List Int)} (hl : a.length = b.length) (h : a.take a.length = b.take a.length) : a = b := by
  rw [List.take_length, List.take_of_length_le (by omega)] at h; exact h

end Go.Proofs.Ytbapomhoipdanaa
