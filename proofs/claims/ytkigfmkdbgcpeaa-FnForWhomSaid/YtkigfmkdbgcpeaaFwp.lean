/- Whom the letters are for: plain. -/
import Derived.Test.YtkigfmkdbgcpeaaNt4
set_option linter.unusedVariables false
set_option linter.unusedSimpArgs false
namespace Go.Proofs.Ytkigfmkdbgcpeaa
open Go.RowKit Go.Sl

theorem letK_mem {ms : List MsgD} {node : Int} : ∀ {k : Nat} {p : Int}, k ≤ ms.length → (p ∈ letK ms node k ↔ ∃ (j : Nat) (x : MsgD), p = j ∧ j < k ∧ ms[j]? = some x ∧ x.2.1 = node)
  | 0, p, _ => by simp [letK]
  | k + 1, p, hk => by
    have ih := letK_mem (ms := ms) (node := node) (k := k) (p := p) (by omega)
    have hx : Hid (ms[k]? = some (ms[k]'(by omega))) := List.getElem?_eq_getElem _
    by_cases h : (ms[k]'(by omega)).2.1 = node
    · rw [letK_yes hx h, List.mem_append, ih, List.mem_singleton]
      constructor
      · rintro (⟨j, x, h1, h2, h3⟩ | rfl)
        · exact ⟨j, x, h1, by omega, h3⟩
        · exact ⟨k, _, rfl, by omega, hx.out, h⟩
      · rintro ⟨j, x, rfl, h2, h3, h4⟩
        by_cases e : j = k
        · exact .inr (by rw [e])
        · exact .inl ⟨j, x, rfl, by omega, h3, h4⟩
    · have e : letK ms node (k + 1) = letK ms node k := by
        rw [letK, List.getD_eq_getElem?_getD, hx.out]; exact if_neg h
      rw [e, ih]
      constructor
      · rintro ⟨j, x, h1, h2, h3⟩
        exact ⟨j, x, h1, by omega, h3⟩
      · rintro ⟨j, x, rfl, h2, h3, h4⟩
        refine ⟨j, x, rfl, ?_, h3, h4⟩
        by_cases e : j = k
        · subst e
          rw [hx.out] at h3
          cases h3
          exact absurd h4 h
        · omega
theorem letK_asc {ms : List MsgD} {node : Int} : ∀ {k : Nat}, k ≤ ms.length → (letK ms node k).Pairwise (· < ·)
  | 0, _ => List.Pairwise.nil
  | k + 1, hk => by
    have ih := letK_asc (ms := ms) (node := node) (k := k) (by omega)
    rw [letK]
    split
    · rw [List.pairwise_append]
      refine ⟨ih, List.pairwise_singleton _ _, fun x hx y hy => ?_⟩
      obtain ⟨j, z, rfl, h2, _⟩ := (letK_mem (by omega)).1 hx
      rw [List.mem_singleton.1 hy]
      omega
    · exact ih
/-- What has been met. -/
def Met6 (ms : List MsgD) (node : Int) (done : List Int) (M : List Int) : Prop := M.length = ms.length ∧ ∀ (j : Nat) (x : MsgD), ms[j]? = some x → M[j]? = some (if x.2.1 < node ∨ (x.2.1 = node ∧ (j : Int) ∈ done) then 1 else 0)
theorem met_start {ms : List MsgD} (h : ∀ x ∈ ms, 0 ≤ x.2.1) : Met6 ms 0 [] (List.replicate ms.length 0) := by
  refine ⟨by simp, fun j x hx => ?_⟩
  have := h x (List.mem_of_getElem? hx)
  have hj := (List.getElem?_eq_some_iff.1 hx).1
  rw [List.getElem?_replicate, if_pos hj, if_neg]
  simp
  omega
theorem met_at {ms : List MsgD} {node : Int} {M : List Int} {i : Nat} {p : Int} (h : Met6 ms node ((letK ms node ms.length).take i) M) (hp : Hid ((letK ms node ms.length)[i]? = some p)) :
    ∃ (j : Nat) (x : MsgD), p = j ∧ j < ms.length ∧ Hid (ms[j]? = some x) ∧ x.2.1 = node ∧ Hid (M[j]? = some 0) ∧ Met6 ms node ((letK ms node ms.length).take (i + 1)) (M.set j 1) ∧ ∀ q, 0 < i → Hid ((letK ms node ms.length)[i - 1]? = some q) → q < j := by
  obtain ⟨j, x, rfl, hj, hx, hn⟩ := (letK_mem (Nat.le_refl _)).1 (List.mem_of_getElem? hp.out)
  have hasc := letK_asc (ms := ms) (node := node) (Nat.le_refl _)
  rw [List.pairwise_iff_getElem] at hasc
  obtain ⟨hi, hie⟩ := List.getElem?_eq_some_iff.1 hp.out
  have hnot : ¬ (j : Int) ∈ (letK ms node ms.length).take i := fun hm => by
    obtain ⟨k, hk, he⟩ := List.mem_iff_getElem.1 hm
    rw [List.length_take] at hk
    rw [List.getElem_take] at he
    have := hasc k i (by omega) hi (by omega)
    omega
  refine ⟨j, x, rfl, hj, hx, hn, ?_, ?_, fun q h0 hq => ?_⟩
  · have := h.2 j x hx
    rw [if_neg (by rintro (h1 | ⟨h1, h2⟩); omega; exact hnot h2)] at this
    exact this
  · refine ⟨by rw [List.length_set]; exact h.1, fun k y hy => ?_⟩
    rw [List.getElem?_set]
    by_cases e : j = k
    · subst e
      rw [if_pos rfl, if_pos (by rw [h.1]; exact hj)]
      rw [hx] at hy
      cases hy
      rw [if_pos (.inr ⟨hn, by rw [take_snoc hp]; simp⟩)]
    · rw [if_neg e, h.2 k y hy, take_snoc hp]
      congr 1
      have : ((k : Int) ∈ (letK ms node ms.length).take i ++ [(j : Int)]) ↔ (k : Int) ∈ (letK ms node ms.length).take i := by
        rw [List.mem_append, List.mem_singleton]
        constructor
        · rintro (h | h)
          · exact h
          · omega
        · exact .inl
      simp only [this]
  · obtain ⟨hq1, hq2⟩ := List.getElem?_eq_some_iff.1 hq.out
    have := hasc (i - 1) i hq1 hi (by omega)
    omega
theorem met_next {ms : List MsgD} {node : Int} {M : List Int} (h : Met6 ms node (letK ms node ms.length) M) : Met6 ms (node + 1) [] M := by
  refine ⟨h.1, fun j x hx => ?_⟩
  rw [h.2 j x hx]
  congr 1
  have hj := (List.getElem?_eq_some_iff.1 hx).1
  have hm : x.2.1 = node → (j : Int) ∈ letK ms node ms.length := fun e => (letK_mem (Nat.le_refl _)).2 ⟨j, x, rfl, hj, hx, e⟩
  by_cases h1 : x.2.1 < node
  · rw [if_pos (.inl h1), if_pos (.inl (by omega))]
  · by_cases h2 : x.2.1 = node
    · rw [if_pos (.inr ⟨h2, hm h2⟩), if_pos (.inl (by omega))]
    · rw [if_neg (by rintro (h | ⟨h, _⟩); exact h1 h; exact h2 h), if_neg (by rintro (h | ⟨_, h⟩); omega; simp at h)]
theorem met_end {ms : List MsgD} {M : List Int} (h : Met6 ms 6 [] M) (hms : ∀ x ∈ ms, x.2.1 < 6) {j : Nat} (hj : j < M.length) : Hid (M[j]? = some 1) := by
  have hx : ms[j]? = some (ms[j]'(by rw [← h.1]; exact hj)) := List.getElem?_eq_getElem _
  have := h.2 j _ hx
  rw [if_pos (.inl (hms _ (List.mem_of_getElem? hx)))] at this
  exact this
theorem to_bd {m : MsgD} (h : msgOk m = true) : 0 ≤ m.2.1 ∧ m.2.1 < 6 := by
  simp only [msgOk, apart, nodeOk, inB, Bool.and_eq_true, decide_eq_true_eq] at h
  omega
theorem letters_six {ms : List MsgD} (h : ∀ x ∈ ms, x.2.1 < 6) : letK ms 6 ms.length = [] := by
  cases he : letK ms 6 ms.length with
  | nil => rfl
  | cons p l =>
    obtain ⟨j, x, _, _, hx, hn⟩ := (letK_mem (Nat.le_refl _)).1 (show p ∈ letK ms 6 ms.length by rw [he]; simp)
    have := h x (List.mem_of_getElem? hx)
    omega
end Go.Proofs.Ytkigfmkdbgcpeaa
