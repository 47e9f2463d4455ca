/- Packed rows are recovered, and no row has two readings. Plain. -/
import Derived.Test.YtdkhghnhggedbaaUp
set_option linter.unusedVariables false
set_option linter.unusedSimpArgs false
namespace Go.Proofs.Ytdkhghnhggedbaa
open Go.RowKit Go.Sl

theorem packK_split (rows : List (List Int)) (k : Nat) : packK rows rows.length = packK rows k ++ (rows.drop k).flatMap (fun r => (r.length : Int) :: r) := by
  unfold packK
  rw [List.take_length, List.cons_append, ← List.flatMap_append, List.take_append_drop]
theorem unpK_pack {rows : List (List Int)} : ∀ k, k ≤ rows.length → unpK (packK rows rows.length) k = some (rows.take k, (packK rows k).length)
  | 0, _ => by simp [unpK, packK]
  | k + 1, hk => by
    have ih := unpK_pack (rows := rows) k (by omega)
    have hx : Hid (rows[k]? = some (rows[k]'(by omega))) := List.getElem?_eq_getElem _
    have hs := packK_snoc hx
    have hsp := packK_split rows (k + 1)
    rw [hs, List.append_assoc] at hsp
    have hlen := congrArg List.length hsp
    simp only [List.length_append, List.length_cons] at hlen
    have h1 : (packK rows k).length < (packK rows rows.length).length := by omega
    have hg : (packK rows rows.length).getD (packK rows k).length 0 = ((rows[k]'(by omega)).length : Nat) := by
      rw [hsp, List.getD_eq_getElem?_getD, List.getElem?_append_right (Nat.le_refl _), Nat.sub_self]
      rfl
    rw [unpK_step ih h1 hg (by omega)]
    have hd : ((packK rows rows.length).drop ((packK rows k).length + 1)).take (rows[k]'(by omega)).length = rows[k]'(by omega) := by
      rw [hsp, List.drop_append, List.drop_eq_nil_of_le (by omega), Nat.add_sub_cancel_left]
      simp
    rw [hd, take_snoc hx, hs, List.length_append, List.length_cons]
    congr 2
    omega
theorem unpacked_packed {rows : List (List Int)} (h : 0 < (packed rows).length) : unpacked (packed rows) = (rows, true) := by
  unfold packed at h ⊢
  split at h
  · rename_i hc
    rw [if_pos hc]
    have hr := packK_ok hc.1 hc.2
    rw [unp_end (n := rows.length) (unpK_pack rows.length (Nat.le_refl _)) hr h rfl, if_pos rfl, List.take_length]
  · simp at h
theorem unpK_flat {row : List Int} (hr : rowOk row = true) (hp : 0 < row.length) : ∀ {k : Nat} {o : List (List Int)} {t : Nat}, unpK row k = some (o, t) → o.flatMap (fun r => (r.length : Int) :: r) = (row.drop 1).take (t - 1) ∧ o.all rowOk = true
  | 0, o, t, h => by cases h; simp
  | k + 1, o, t, h => by
    rw [unpK] at h
    cases hk : unpK row k with
    | none => rw [hk] at h; cases h
    | some q =>
      obtain ⟨o', t'⟩ := q
      obtain ⟨h1, h2⟩ := unpK_flat hr hp hk
      have hlt := (unpK_len hk hp).2
      rw [hk] at h
      dsimp only at h
      split at h
      · rename_i hc
        cases h
        obtain ⟨hc1, hc2⟩ := hc
        simp only [rowOk, Bool.and_eq_true, List.all_eq_true, decide_eq_true_eq] at hr
        obtain ⟨z, hz⟩ : ∃ z, row[t'] = z := ⟨_, rfl⟩
        have hin := hr.2 _ (List.getElem_mem hc1)
        have hg : row.getD t' 0 = z := by rw [List.getD_eq_getElem?_getD, List.getElem?_eq_getElem hc1, hz]; rfl
        rw [hz] at hin
        have hb : 0 ≤ z := by simp [inRow, inB] at hin; omega
        rw [hg] at hc2 ⊢
        obtain ⟨z, rfl⟩ := Int.eq_ofNat_of_zero_le hb
        have hl : ((row.drop (t' + 1)).take z).length = z := by rw [List.length_take, List.length_drop]; omega
        rw [Int.toNat_natCast]
        constructor
        · rw [List.flatMap_append, h1]
          simp only [List.flatMap_cons, List.flatMap_nil, List.append_nil]
          rw [hl, show t' + 1 + z - 1 = (t' - 1) + (1 + z) by omega, List.take_add, List.drop_drop, show 1 + (t' - 1) = t' by omega, List.drop_eq_getElem_cons hc1, Nat.add_comm 1 z, List.take_succ_cons, hz]
        · rw [List.all_append, h2]
          simp only [List.all_cons, List.all_nil, Bool.and_true, Bool.true_and, rowOk, Bool.and_eq_true, List.all_eq_true, decide_eq_true_eq]
          refine ⟨by rw [hl]; omega, fun x hx => hr.2 x (List.mem_of_mem_drop (List.mem_of_mem_take hx))⟩
      · cases h
theorem packed_unpacked {row : List Int} {v : List (List Int)} (h : unpacked row = (v, true)) : packed v = row := by
  unfold unpacked at h
  split at h
  · rename_i hc
    obtain ⟨hr, hp⟩ := hc
    have hr' := hr
    simp only [rowOk, Bool.and_eq_true, List.all_eq_true, decide_eq_true_eq] at hr'
    have hx : row[0]? = some (row[0]'hp) := List.getElem?_eq_getElem hp
    have hg : row.getD 0 0 = row[0]'hp := by rw [List.getD_eq_getElem?_getD, hx]; rfl
    have hin := hr'.2 _ (List.getElem_mem hp)
    have hb : 0 ≤ row[0]'hp := by simp [inRow, inB] at hin; omega
    cases hk : unpK row (row.getD 0 0).toNat with
    | none => rw [hk] at h; cases h
    | some q =>
      obtain ⟨o, t⟩ := q
      rw [hk] at h
      dsimp only at h
      split at h
      · rename_i ht
        cases h
        obtain ⟨h1, h2⟩ := unpK_flat hr hp hk
        have hl := (unpK_len hk hp).1
        have he : packK v v.length = row := by
          unfold packK
          rw [List.take_length, h1, ht, List.take_of_length_le (by rw [List.length_drop]; omega), hl, hg, Int.toNat_of_nonneg hb, ← List.drop_eq_getElem_cons hp]
          rfl
        unfold packed
        rw [he, if_pos ⟨h2, hr'.1⟩]
      · cases h
  · cases h
end Go.Proofs.Ytdkhghnhggedbaa
