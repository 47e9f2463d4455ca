/- Two disks that fall: the plain law of FnMirrorFalls. -/
import Derived.Test.YtbapomhoipdanaaTwP
import Derived.Test.YtbapomhoipdanaaRot
import Derived.Test.YtbapomhoipdanaaDkf
set_option linter.unusedVariables false
set_option linter.unusedSimpArgs false
namespace Go.Proofs.Ytbapomhoipdanaa
open Go.RowKit Go.Sl

theorem twoOk_iff {t : TwoD} : twoOk t = true ↔ diskOk t.1 = true ∧ diskOk t.2 = true ∧ t.1.1.length = t.2.1.length := by
  simp only [twoOk, Bool.and_eq_true, decide_eq_true_eq, and_assoc]
theorem twoOk_new {n : Int} (h1 : 1 ≤ n) (h2 : n ≤ 40) : twoOk (newTwo n) = true := twoOk_iff.2 ⟨diskOk_new h1 h2, diskOk_new h1 h2, rfl⟩
theorem wrote_len {d : DiskD} (h : diskOk d = true) (n : Int) (row : List Int) : (wrote d n row).1.1.length = d.1.length := by
  unfold wrote
  rw [if_pos h]
  split <;> rfl
theorem twoOk_wrote {t : TwoD} (h : twoOk t = true) (n : Int) (row : List Int) : twoOk (bothWrote t n row).1 = true := by
  unfold bothWrote
  rw [if_pos h]
  split
  · obtain ⟨h1, h2, h3⟩ := twoOk_iff.1 h
    exact twoOk_iff.2 ⟨diskOk_wrote h1 _ _, diskOk_wrote h2 _ _, by rw [wrote_len h1, wrote_len h2]; exact h3⟩
  · exact h
theorem twoOk_synced {t : TwoD} (h : twoOk t = true) : twoOk (bothSynced t) = true := by
  unfold bothSynced
  rw [if_pos h]
  obtain ⟨h1, h2, h3⟩ := twoOk_iff.1 h
  exact twoOk_iff.2 ⟨diskOk_synced h1, diskOk_synced h2, by rw [synced_len h1, synced_len h2]; exact h3⟩
theorem twoOk_fallen {t : TwoD} (h : twoOk t = true) (f : List Int) : twoOk (bothFallen t f) = true := by
  unfold bothFallen
  rw [if_pos h]
  obtain ⟨h1, h2, h3⟩ := twoOk_iff.1 h
  exact twoOk_iff.2 ⟨diskOk_fallen h1 _, diskOk_fallen h2 _, by rw [fallen_len h1, fallen_len h2]; exact h3⟩
theorem fallen_no2 {t : TwoD} (h : twoOk t = false) (f : List Int) : bothFallen t f = noTwo := by
  unfold bothFallen
  rw [h]; rfl
theorem rowOk_set {l : List Int} (h : rowOk l = true) (i : Nat) {x : Int} (hx : inB x 0 1000000000 = true) : rowOk (l.set i x) = true := by
  simp only [rowOk, Bool.and_eq_true, List.all_eq_true, decide_eq_true_eq, List.length_set] at h ⊢
  refine ⟨h.1, fun y hy => ?_⟩
  rcases List.mem_or_eq_of_mem_set hy with h9 | h9
  · exact h.2 y h9
  · subst h9; exact hx
theorem diskOk_rotted {d : DiskD} (h : diskOk d = true) (n i x : Int) : diskOk (rotted d n i x).1 = true ∧ (rotted d n i x).1.1.length = d.1.length := by
  unfold rotted
  rw [if_pos h]
  split
  · rename_i hc
    obtain ⟨rs, ws⟩ := d
    obtain ⟨h1, h2, h3, h4, h5⟩ := diskOk_parts h
    refine ⟨diskOk_of (fun y hy => ?_) (fun y hy => by rw [List.length_set]; exact h2 y hy) ⟨by rw [List.length_set]; exact h3, by rw [List.length_set]; exact h4, h5⟩, by dsimp only; rw [List.length_set]⟩
    rcases List.mem_or_eq_of_mem_set hy with h9 | h9
    · exact h1 y h9
    · rw [h9]
      refine rowOk_set ?_ _ hc.2.2
      dsimp only
      rw [List.getD_eq_getElem?_getD]
      cases hg : rs[n.toNat]? with
      | none => rfl
      | some r => exact h1 r (List.mem_of_getElem? hg)
  · exact ⟨h, rfl⟩
theorem twoOk_rot {t : TwoD} (h : twoOk t = true) (n i x : Int) : twoOk (t.1, (rotted t.2 n i x).1) = true := by
  obtain ⟨h1, h2, h3⟩ := twoOk_iff.1 h
  obtain ⟨h4, h5⟩ := diskOk_rotted h2 n i x
  exact twoOk_iff.2 ⟨h1, h4, by rw [h5]; exact h3⟩
theorem twoOk_len {t : TwoD} (h : twoOk t = true) : 1 ≤ t.1.1.length ∧ t.1.1.length ≤ 40 ∧ t.1.2.length ≤ 60 ∧ t.2.2.length ≤ 60 ∧ t.2.1.length = t.1.1.length := by
  obtain ⟨h1, h2, h3⟩ := twoOk_iff.1 h
  have := diskOk_len h1
  have := diskOk_len h2
  omega
theorem readRow_none {d : DiskD} {k : Nat} (hn : ∀ x ∈ d.2, x.1 ≠ (k : Int)) : readRow d k = d.1.getD k [] := by
  have h : lastW (k : Int) d.2 = none := by
    unfold lastW
    rw [List.find?_eq_none]
    intro x hx
    simpa using hn x (by simpa using hx)
  unfold readRow
  rw [h, Int.toNat_natCast]
theorem readAt_fallen {d : DiskD} (h : diskOk d = true) (f : List Int) {k : Nat} (hk : k < d.1.length) (hn : ∀ x ∈ d.2, x.1 ≠ (k : Int)) : readAt (fallen d f) k = readAt d k := by
  rw [readAt_ok h hk, readAt_ok (diskOk_fallen h f) (by rw [fallen_len h f]; exact hk), readRow_none hn, readRow_none (by rw [fallen_two h f]; intro x hx; cases hx), List.getD_eq_getElem?_getD, List.getD_eq_getElem?_getD, fallen_get h f hn]
theorem rightAt_fallen {t : TwoD} (h : twoOk t = true) (f : List Int) {k : Nat} (hk : k < t.1.1.length) (hn : ∀ x ∈ t.1.2, x.1 ≠ (k : Int)) (hn' : ∀ x ∈ t.2.2, x.1 ≠ (k : Int)) : rightAt (bothFallen t f) k = rightAt t k := by
  obtain ⟨h1, h2, h3⟩ := twoOk_iff.1 h
  have h9 := twoOk_fallen h f
  unfold rightAt
  rw [h9, h]
  unfold bothFallen
  rw [if_pos h]
  dsimp only
  rw [fallen_len h1, readAt_fallen h1 _ hk hn, readAt_fallen h2 _ (by omega) hn']
theorem fallen2_len {t : TwoD} (h : twoOk t = true) (f : List Int) : (bothFallen t f).1.1.length = t.1.1.length := by
  unfold bothFallen
  rw [if_pos h]
  exact fallen_len (twoOk_iff.1 h).1 _
/-- Has a write to sector k been met so far? -/
def Wr (ws : List WriteD) (j k : Nat) (b : Bool) : Prop := b = false → ∀ x ∈ ws.take j, x.1 ≠ (k : Int)
theorem Wr.start (ws : List WriteD) (k : Nat) (b : Bool) : Wr ws 0 k b := fun _ x hx => by simp at hx
theorem Wr.hit (ws : List WriteD) (j k : Nat) : Wr ws j k true := fun h => by cases h
theorem Wr.miss {ws : List WriteD} {j k : Nat} {x : WriteD} (h : Wr ws j k false) (hx : Hid (ws[j]? = some x)) (hn : x.1 ≠ (k : Int)) : Wr ws (j + 1) k false := fun _ y hy => by
  rw [take_snoc hx] at hy
  rcases List.mem_append.1 hy with hy | hy
  · exact h rfl y hy
  · rw [List.mem_singleton.1 hy]; exact hn
theorem Wr.all {ws : List WriteD} {k : Nat} (h : Wr ws ws.length k false) : ∀ x ∈ ws, x.1 ≠ (k : Int) := by
  have h9 := h rfl
  rw [List.take_length] at h9
  exact h9
end Go.Proofs.Ytbapomhoipdanaa
