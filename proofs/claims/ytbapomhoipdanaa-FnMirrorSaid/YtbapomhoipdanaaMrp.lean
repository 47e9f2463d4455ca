/- Two disks with a damaged row: what the law FnMirror says, plain. -/
import Derived.Test.YtbapomhoipdanaaTwP
import Derived.Test.YtbapomhoipdanaaRot
import Derived.Test.YtbapomhoipdanaaRow4
import Derived.Test.YtbapomhoipdanaaDkp
set_option linter.unusedVariables false
set_option linter.unusedSimpArgs false
namespace Go.Proofs.Ytbapomhoipdanaa
open Go.RowKit Go.Sl

theorem fold_ne : ∀ (l : List Int) (s t : Int), 0 ≤ s ∧ s < 999999937 → 0 ≤ t ∧ t < 999999937 → s ≠ t → l.foldl (fun s x => (131 * s + x + 1) % 999999937) s ≠ l.foldl (fun s x => (131 * s + x + 1) % 999999937) t
  | [], _, _, _, _, h => h
  | x :: l, s, t, hs, ht, h => fold_ne l _ _ (by dsimp only; omega) (by dsimp only; omega) (by dsimp only; omega)
theorem fold_set_ne : ∀ (l : List Int) (i : Nat) (v s : Int), (hi : i < l.length) → 0 ≤ s ∧ s < 999999937 → v ≠ l[i] → v - l[i] < 999999937 → l[i] - v < 999999937 → (l.set i v).foldl (fun s x => (131 * s + x + 1) % 999999937) s ≠ l.foldl (fun s x => (131 * s + x + 1) % 999999937) s
  | x :: l, 0, v, s, hi, hs, h, h1, h2 => by
    simp only [List.getElem_cons_zero] at h h1 h2
    exact fold_ne l _ _ (by dsimp only; omega) (by dsimp only; omega) (by dsimp only; omega)
  | x :: l, i + 1, v, s, hi, hs, h, h1, h2 => by
    simp only [List.getElem_cons_succ] at h h1 h2
    exact fold_set_ne l i v _ (by simpa using hi) (by dsimp only; omega) h h1 h2
theorem bent_wrong (l : List Int) (i : Nat) (v : Int) (hi : i < (l ++ [chk l]).length) (h : v ≠ (l ++ [chk l])[i]) (h1 : v - (l ++ [chk l])[i] < 999999937) (h2 : (l ++ [chk l])[i] - v < 999999937) : (unsum ((l ++ [chk l]).set i v)).2 = false := by
  rcases Nat.lt_or_ge i l.length with hl | hl
  · rw [List.getElem_append_left hl] at h h1 h2
    rw [List.set_append_left _ _ hl, unsum_snoc]
    have hne : chk (l.set i v) ≠ chk l := fold_set_ne l i v 7 hl (by omega) h h1 h2
    simp [hne]
  · have he : i = l.length := by simp at hi; omega
    subst he
    rw [List.getElem_append_right (Nat.le_refl _)] at h
    simp at h
    rw [List.set_append_right _ _ (Nat.le_refl _), Nat.sub_self]
    show (unsum (l ++ [v])).2 = false
    rw [unsum_snoc]
    have hne : ¬ chk l = v := fun e => h e.symm
    simp [hne]
theorem rowOk_sum {l : List Int} (hr : rowOk l = true) (hl : l.length < 48) : rowOk (l ++ [chk l]) = true := by
  have hb := chk_bd l
  simp only [rowOk, Bool.and_eq_true, List.all_eq_true, decide_eq_true_eq, List.length_append, List.length_singleton, List.mem_append, List.mem_singleton] at hr ⊢
  refine ⟨by omega, fun x hx => ?_⟩
  rcases hx with hx | hx
  · exact hr.2 x hx
  · subst hx; simp [inRow, inB]; omega
theorem unsum_withSum {l : List Int} (hr : rowOk l = true) (hl : l.length < 48) : unsum (l ++ [chk l]) = (l, true) := by
  rw [unsum_snoc, if_pos (by rw [rowOk_sum hr hl]; simp)]
/-- Four sectors, the third of which holds s. -/
def mrow (s : List Int) : List (List Int) := [[], [], s, []]
theorem mrow_ok {s : List Int} (h : rowOk s = true) : ∀ x ∈ mrow s, rowOk x = true := by
  intro x hx
  simp only [mrow, List.mem_cons, List.not_mem_nil, or_false] at hx
  rcases hx with rfl | rfl | rfl | rfl
  · rfl
  · rfl
  · exact h
  · rfl
theorem mdisk_ok {s : List Int} (h : rowOk s = true) : diskOk (mrow s, []) = true := diskOk_of (mrow_ok h) (by simp) (by simp [mrow])
theorem mdisk_ok1 {s : List Int} (h : rowOk s = true) {r : List Int} (hr : rowOk r = true) : diskOk (mrow r, [(2, s)]) = true :=
  diskOk_of (mrow_ok hr) (fun x hx => by rw [List.mem_singleton.1 hx]; exact ⟨by simp [mrow, inB], h⟩) (by simp [mrow])
theorem mtwo_ok {s t : List Int} (h : rowOk s = true) (h' : rowOk t = true) : twoOk ((mrow s, []), (mrow t, [])) = true := by
  simp only [twoOk, mdisk_ok h, mdisk_ok h', Bool.true_and, decide_eq_true_eq]; rfl
theorem mr_new : newTwo 4 = ((mrow [], []), (mrow [], [])) := by rfl
theorem mr_wsum {r : List Int} (hr : rowOk r = true) (hl : r.length < 48) : withSum r = r ++ [chk r] := by
  unfold withSum; rw [hr]; simp [hl]
theorem mr_wrote1 {s t : List Int} (hs : rowOk s = true) (ht : rowOk t = true) : wrote (mrow t, []) 2 s = ((mrow t, [(2, s)]), true) := by
  unfold wrote
  rw [if_pos (mdisk_ok ht), if_pos ⟨by simp [mrow, inB], hs, by simp⟩]; rfl
theorem mr_wrote {r t u : List Int} (hr : rowOk r = true) (hl : r.length < 48) (ht : rowOk t = true) (hu : rowOk u = true) : bothWrote ((mrow t, []), (mrow u, [])) 2 r = (((mrow t, [(2, r ++ [chk r])]), (mrow u, [(2, r ++ [chk r])])), true) := by
  unfold bothWrote
  rw [if_pos (mtwo_ok ht hu), mr_wsum hr hl]
  dsimp only
  rw [mr_wrote1 (rowOk_sum hr hl) ht, mr_wrote1 (rowOk_sum hr hl) hu]
  rw [if_pos ⟨by simp, rfl, rfl⟩]
theorem mr_sync1 {s t : List Int} (hs : rowOk s = true) (ht : rowOk t = true) : synced (mrow t, [(2, s)]) = (mrow s, []) := by
  unfold synced
  rw [if_pos (mdisk_ok1 hs ht)]; rfl
theorem mr_synced {s t u : List Int} (hs : rowOk s = true) (ht : rowOk t = true) (hu : rowOk u = true) : bothSynced ((mrow t, [(2, s)]), (mrow u, [(2, s)])) = ((mrow s, []), (mrow s, [])) := by
  unfold bothSynced
  have h : twoOk ((mrow t, [(2, s)]), (mrow u, [(2, s)])) = true := by
    simp only [twoOk, mdisk_ok1 hs ht, mdisk_ok1 hs hu, Bool.true_and, decide_eq_true_eq]; rfl
  rw [if_pos h]
  dsimp only
  rw [mr_sync1 hs ht, mr_sync1 hs hu]
theorem mr_safe {s : List Int} (h : rowOk s = true) : safeIn (mrow s, []) = true := by unfold safeIn; rw [mdisk_ok h]; rfl
theorem mr_equal {s : List Int} (h : rowOk s = true) : equalIn ((mrow s, []), (mrow s, [])) = true := by
  unfold equalIn; rw [mtwo_ok h h]; dsimp only; rw [mr_safe h]; simp
theorem mr_unequal {s t : List Int} (h : s ≠ t) : equalIn ((mrow s, []), (mrow t, [])) = false := by
  have : ¬ mrow s = mrow t := fun e => h (by simpa [mrow] using e)
  unfold equalIn; simp [this]
theorem mr_rotted {s : List Int} (h : rowOk s = true) {i : Nat} {x : Int} (hi : i < s.length) (hx : 0 ≤ x ∧ x ≤ 1000000000) : rotted (mrow s, []) 2 i x = ((mrow (s.set i x), []), true) := by
  unfold rotted
  have e : (mrow s).getD (2 : Int).toNat [] = s := rfl
  dsimp only
  rw [if_pos (mdisk_ok h), e, if_pos ⟨by simp [mrow, inB], by simp only [inB, Bool.and_eq_true, decide_eq_true_eq]; omega, by simp only [inB, Bool.and_eq_true, decide_eq_true_eq]; omega⟩]
  rfl
theorem mr_read {s : List Int} (h : rowOk s = true) : readAt (mrow s, []) 2 = (s, true) := by
  unfold readAt
  rw [if_pos ⟨mdisk_ok h, by simp [mrow, inB]⟩]; rfl
theorem mr_right {r t : List Int} (hr : rowOk r = true) (hl : r.length < 48) (ht : rowOk t = true) (hu : (unsum t).2 = false) : rightAt ((mrow (r ++ [chk r]), []), (mrow t, [])) 2 = [r] := by
  unfold rightAt
  rw [if_pos ⟨mtwo_ok (rowOk_sum hr hl) ht, by simp [mrow, inB]⟩]
  dsimp only
  rw [mr_read (rowOk_sum hr hl), mr_read ht]
  dsimp only
  rw [unsum_withSum hr hl, hu]; simp
theorem mr_right2 {r : List Int} (hr : rowOk r = true) (hl : r.length < 48) : rightAt ((mrow (r ++ [chk r]), []), (mrow (r ++ [chk r]), [])) 2 = [r] := by
  unfold rightAt
  rw [if_pos ⟨mtwo_ok (rowOk_sum hr hl) (rowOk_sum hr hl), by simp [mrow, inB]⟩]
  dsimp only
  rw [mr_read (rowOk_sum hr hl)]
  dsimp only
  rw [unsum_withSum hr hl]; simp
theorem mr_mended {r t : List Int} (hr : rowOk r = true) (hl : r.length < 48) (ht : rowOk t = true) : mendedAt ((mrow (r ++ [chk r]), []), (mrow t, [])) 2 r = ((mrow (r ++ [chk r]), []), (mrow (r ++ [chk r]), [])) := by
  unfold mendedAt
  rw [mr_wrote hr hl (rowOk_sum hr hl) ht, if_pos rfl]
  exact mr_synced (rowOk_sum hr hl) (rowOk_sum hr hl) ht
theorem rowOk_set {s : List Int} (h : rowOk s = true) (i : Nat) {x : Int} (hx : 0 ≤ x ∧ x ≤ 1000000000) : rowOk (s.set i x) = true := by
  simp only [rowOk, Bool.and_eq_true, decide_eq_true_eq, List.all_eq_true, List.length_set] at h ⊢
  refine ⟨h.1, fun y hy => ?_⟩
  rcases List.mem_or_eq_of_mem_set hy with hy | rfl
  · exact h.2 y hy
  · simp only [inRow, inB, Bool.and_eq_true, decide_eq_true_eq]; exact hx
theorem mr_row {x y z : Int} (hx : 0 ≤ x ∧ x < 1000) (hy : 0 ≤ y ∧ y < 1000) (hz : 0 ≤ z ∧ z < 1000) : rowOk [x, y, z] = true := by
  simp [rowOk, inRow, inB]; omega
end Go.Proofs.Ytbapomhoipdanaa
