/- Disks: what stays right, plain. -/
import Derived.Test.YtbapomhoipdanaaPut
import Derived.Test.YtbapomhoipdanaaWo
import Derived.Test.YtbapomhoipdanaaDk4
import Derived.Test.YtbapomhoipdanaaDk3
set_option linter.unusedVariables false
set_option linter.unusedSimpArgs false
namespace Go.Proofs.Ytbapomhoipdanaa
open Go.RowKit Go.Sl

theorem diskOk_of {rs : List (List Int)} {ws : List WriteD} (h1 : ∀ x ∈ rs, rowOk x = true) (h2 : ∀ x ∈ ws, inB x.1 0 ((rs.length : Int) - 1) = true ∧ rowOk x.2 = true) (h3 : 1 ≤ rs.length ∧ rs.length ≤ 40 ∧ ws.length ≤ 60) : diskOk (rs, ws) = true := by
  simp only [diskOk, Bool.and_eq_true, decide_eq_true_eq, List.all_eq_true, wOk]
  exact ⟨⟨⟨⟨h3.1, h3.2.1⟩, h3.2.2⟩, h1⟩, h2⟩
theorem diskOk_new {n : Int} (h1 : 1 ≤ n) (h2 : n ≤ 40) : diskOk (newDisk n) = true := by
  unfold newDisk
  have hb : inB n 1 40 = true := by simp only [inB, Bool.and_eq_true, decide_eq_true_eq]; omega
  rw [if_pos hb]
  refine diskOk_of (fun x hx => ?_) (by simp) ⟨by simp; omega, by simp; omega, by simp⟩
  rw [List.eq_of_mem_replicate hx]; rfl
theorem diskOk_wrote {d : DiskD} (h : diskOk d = true) (n : Int) (row : List Int) : diskOk (wrote d n row).1 = true := by
  unfold wrote
  rw [if_pos h]
  split
  · rename_i hc
    obtain ⟨rs, ws⟩ := d
    obtain ⟨h1, h2, h3, h4, h5⟩ := diskOk_parts h
    refine diskOk_of h1 (fun x hx => ?_) ⟨h3, h4, by have := hc.2.2; simp at this ⊢; omega⟩
    rcases List.mem_append.1 hx with hx | hx
    · exact h2 x hx
    · rw [List.mem_singleton.1 hx]; exact ⟨hc.1, hc.2.1⟩
  · exact h
theorem diskOk_fall {d : DiskD} (h : diskOk d = true) (f : Nat → Int) : diskOk (fallD f d) = true := by
  obtain ⟨rs, ws⟩ := d
  obtain ⟨h1, h2, h3, h4, h5⟩ := diskOk_parts h
  have hl := fallK_len f rs ws ws.length
  exact diskOk_of (fallK_ok h1 (fun y hy => (h2 y hy).2) _) (by simp) ⟨by show 1 ≤ (fallK f rs ws ws.length).length; omega, by show (fallK f rs ws ws.length).length ≤ 40; omega, by simp⟩
theorem diskOk_synced {d : DiskD} (h : diskOk d = true) : diskOk (synced d) = true := by unfold synced; rw [if_pos h]; exact diskOk_fall h _
theorem diskOk_fallen {d : DiskD} (h : diskOk d = true) (fates : List Int) : diskOk (fallen d fates) = true := by unfold fallen; rw [if_pos h]; exact diskOk_fall h _
theorem safe_fall {d : DiskD} (h : diskOk d = true) (f : Nat → Int) : safeIn (fallD f d) = true := by
  unfold safeIn; rw [diskOk_fall h f]; rfl
theorem fallK_same {f g : Nat → Int} {ks : List (List Int)} {ws : List WriteD} {k : Nat} (h : ∀ i, i < k → f i = g i) : fallK f ks ws k = fallK g ks ws k := by
  induction k with
  | zero => rfl
  | succ k ih => rw [fallK, fallK, ih (fun i hi => h i (by omega)), h k (by omega)]
theorem fallK_none {f : Nat → Int} {ks : List (List Int)} {ws : List WriteD} {k : Nat} (h : ∀ i, i < k → f i ≠ 1 ∧ f i ≠ 2) : fallK f ks ws k = ks := by
  induction k with
  | zero => rfl
  | succ k ih =>
    have := h k (by omega)
    rw [fallK, ih (fun i hi => h i (by omega)), fallW, if_neg this.1, if_neg this.2]
/-- A sector that no write names keeps its row. -/
theorem fallK_other {f : Nat → Int} {ks : List (List Int)} {ws : List WriteD} {n : Nat} {k : Nat} (hk : k ≤ ws.length) (h : ∀ x ∈ ws, x.1.toNat ≠ n) : (fallK f ks ws k)[n]? = ks[n]? := by
  induction k with
  | zero => rfl
  | succ k ih =>
    have hx : Hid (ws[k]? = some (ws[k]'(by omega))) := List.getElem?_eq_getElem _
    rw [fallK_snoc f ks ws k hx]
    have hn := h _ (List.mem_of_getElem? hx.out)
    unfold fallW
    split
    · rw [List.getElem?_set_ne hn, ih (by omega)]
    · split
      · rw [List.getElem?_set_ne hn, ih (by omega)]
      · exact ih (by omega)
end Go.Proofs.Ytbapomhoipdanaa
