/- Rows: Unsummed, and what packs them. -/
import Derived.Test.YtbapomhoipdanaaRow3
set_option linter.unusedVariables false
set_option linter.unusedSimpArgs false
namespace Go.Proofs.Ytbapomhoipdanaa
open Go.RowKit Go.Sl

def unsum (l : List Int) : List Int × Bool := if rowOk l && !l.isEmpty && decide (chk l.dropLast = l.getLastD 0) then (l.dropLast, true) else ([], false)

theorem unsum_snoc (m : List Int) (x : Int) : unsum (m ++ [x]) = if rowOk (m ++ [x]) && decide (chk m = x) then (m, true) else ([], false) := by
  simp [unsum]

theorem unsum_nil : unsum [] = ([], false) := by simp [unsum]

theorem rowOk_pre {m r : List Int} (h : rowOk (m ++ r) = true) : rowOk m = true := by
  simp only [rowOk, Bool.and_eq_true, decide_eq_true_eq, List.all_eq_true, List.length_append] at h ⊢
  exact ⟨by omega, fun x hx => h.2 x (List.mem_append_left _ hx)⟩

theorem row_snoc_open {w : World} {v : Value} {m : List Int} {x : Int} (h : rowC.V w [v] (m ++ [x])) :
    ∃ b off cap, v = .slice (some ⟨b, off, none⟩) (m.length + 1) cap ∧ m.length + 1 ≤ cap ∧ cap ≤ 9223372036854775807 ∧ w.cell? ⟨b, off + m.length, none⟩ = some (.int .i64 x) ∧ rowC.V w [.slice (some ⟨b, off, none⟩) m.length cap] m := by
  obtain ⟨a, cap, rfl, h1, h2, hc⟩ := row_open h
  obtain ⟨b, off, y, rfl, hcell, hy⟩ := hc m.length (by simp)
  have hy' := hy.out
  simp at hy'
  subst hy'
  have hp := row_pre (k := m.length) h (by simp)
  rw [List.take_left] at hp
  exact ⟨b, off, cap, by simp, by simpa using h1, h2, hcell, hp⟩

theorem snoc_of {l : List Int} (h : 0 < l.length) : ∃ m x, l = m ++ [x] := by
  refine ⟨l.dropLast, l.getLast (by intro e; subst e; simp at h), ?_⟩
  rw [List.dropLast_concat_getLast]

set_option maxHeartbeats 800000 in
theorem implUnsummed_c (v : Value) (l : List Int) (w : World) (h : rowC.V w [v] l) :
    Calls Try.prog 57 #[v] w fun e w' => ∃ v', e = .returned (.tuple #[v', .bool (unsum l).2]) ∧ Ext w w' ∧ rowC.own w.heap.size w'.heap.size w' [v'] (unsum l).1 := by
  by_cases hl : 0 < l.length
  · obtain ⟨m, x, rfl⟩ := snoc_of hl
    have H := Lib.hid h
    obtain ⟨b, off, cap, rfl, h1, h2, hcell, hp⟩ := row_snoc_open h
    have HP := Lib.hid hp
    clear h hl hp
    have hl0 : ((m.length : Int) + 1 == 0) = false := by rw [beq_eq_false_iff_ne]; omega
    rw [unsum_snoc]
    cases hr : rowOk (m ++ [x])
    · simp only [Bool.false_and, Bool.false_eq_true, if_false]
      go_enter Try.func57, Try.ntmps57
      go_wp2_with (go_at_call 92; refine (implRowOk_c _ _ _ H.out).mono ?_; rintro e w' ⟨rfl, rfl⟩)
      go_ret2
      exact ⟨_, rfl, Ext.refl _, row_nil _ _ _⟩
    · have hlen : m.length + 1 ≤ 48 := by simpa using rowOk_len hr
      have Hm := Lib.hid (fun y hy => rowOk_mem (rowOk_pre hr) (x := y) hy)
      have Hr := Lib.hid (rowOk_pre hr)
      have hi1 : (0 : Int) ≤ m.length := by omega
      have hi2 : (m.length : Int) < m.length + 1 := by omega
      have hw1 : IntKind.i64.wrap ((m.length : Int) + 1 - 1) = m.length := by rw [show (m.length : Int) + 1 - 1 = m.length by omega]; exact IntWalk.i64_in _ (by omega)
      by_cases hx : chk m = x
      · rw [if_pos (by simp [hx])]
        have hx' : (chk m != x) = false := by rw [bne_eq_false_iff_eq]; exact hx
        have Hx := Lib.hid hx; clear hx
        go_enter Try.func57, Try.ntmps57
        go_wp2_with (go_at_call 92; refine (implRowOk_c _ _ _ H.out).mono ?_; rintro e w' ⟨rfl, rfl⟩)
        go_quiet ((go_at_call 93; exact quiet_eq (checksum_c _ m _ (rowC.vext HP.out (Ext.drewN _ _)) Hm.out)))
        go_wp2_with (go_at_call 91; refine (copyRow_c _ m _ (rowC.vext HP.out (Ext.drewN _ _)) (by omega)).mono ?_; rintro e w1 ⟨v', rfl, hE, hO⟩)
        go_ret2
        exact ⟨_, rfl, (Ext.drewN _ _).trans hE, hO.wide (Nat.le_refl _) (Nat.le_refl _)⟩
      · rw [if_neg (by simp [hx])]
        have hx' : (chk m != x) = true := by rw [bne_iff_ne]; exact hx
        have Hx := Lib.hid hx; clear hx
        go_enter Try.func57, Try.ntmps57
        go_wp2_with (go_at_call 92; refine (implRowOk_c _ _ _ H.out).mono ?_; rintro e w' ⟨rfl, rfl⟩)
        go_quiet ((go_at_call 93; exact quiet_eq (checksum_c _ m _ (rowC.vext HP.out (Ext.drewN _ _)) Hm.out)))
        go_wp2
        go_ret2
        exact ⟨_, rfl, Ext.drewN _ _, row_nil _ _ _⟩
  · have : l = [] := List.eq_nil_of_length_eq_zero (by omega)
    subst this
    rw [unsum_nil]
    have H := Lib.hid h
    obtain ⟨a, cap, rfl, h1, h2, hc⟩ := row_open h
    clear h hl hc
    have hro : rowOk [] = true := rfl
    simp only [List.length_nil] at *
    go_enter Try.func57, Try.ntmps57
    go_wp2_with (go_at_call 92; refine (implRowOk_c _ [] _ H.out).mono ?_; rw [hro]; rintro e w' ⟨rfl, rfl⟩)
    go_ret2
    exact ⟨_, rfl, Ext.refl _, row_nil _ _ _⟩

set_option maxHeartbeats 800000 in
theorem specUnsummed_c (v : Value) (l : List Int) (w : World) (h : rowC.V w [v] l) :
    Calls Try.prog 53 #[v] w fun e w' => ∃ v', e = .returned (.tuple #[v', .bool (unsum l).2]) ∧ Ext w w' ∧ rowC.own w.heap.size w'.heap.size w' [v'] (unsum l).1 := by
  by_cases hl : 0 < l.length
  · obtain ⟨m, x, rfl⟩ := snoc_of hl
    have H := Lib.hid h
    obtain ⟨b, off, cap, rfl, h1, h2, hcell, hp⟩ := row_snoc_open h
    have HP := Lib.hid hp
    clear h hl hp
    have hl0 : ((m.length : Int) + 1 == 0) = false := by rw [beq_eq_false_iff_ne]; omega
    rw [unsum_snoc]
    cases hr : rowOk (m ++ [x])
    · simp only [Bool.false_and, Bool.false_eq_true, if_false]
      go_enter Try.func53, Try.ntmps53
      go_wp2_with (go_at_call 89; refine (specRowOk_c _ _ _ H.out).mono ?_; rintro e w' ⟨rfl, rfl⟩)
      go_ret2
      exact ⟨_, rfl, Ext.alloc _ _, row_empty _ _ _ (Nat.le_refl _)⟩
    · have hlen : m.length + 1 ≤ 48 := by simpa using rowOk_len hr
      have hi1 : (0 : Int) ≤ m.length := by omega
      have hi2 : (m.length : Int) < m.length + 1 := by omega
      have hi3 : (m.length : Int) + 1 - 1 = m.length := by omega
      have hw1 : IntKind.i64.wrap ((m.length : Int) + 1 - 1) = m.length := by rw [show (m.length : Int) + 1 - 1 = m.length by omega]; exact IntWalk.i64_in _ (by omega)
      have hso : sumOf m = chk m := by simp [sumOf, rowOk_pre hr]
      have Hso := Lib.hid hso; clear hso
      cases hx : decide (chk m = x)
      · have hx0 : ¬ chk m = x := by simpa using hx
        rw [if_neg (by simp [hx0])]
        have hx' : (chk m != x) = true := by rw [bne_iff_ne]; exact hx0
        have Hx := Lib.hid hx0; clear hx hx0
        go_enter Try.func53, Try.ntmps53
        go_wp2_with (first
          | (go_at_call 89; refine (specRowOk_c _ _ _ H.out).mono ?_; rintro e w' ⟨rfl, rfl⟩)
          | (go_at_call 88; refine (l1Copy_c _ m _ HP.out (by omega)).mono ?_; rintro e w1 ⟨v', rfl, hE, hO⟩; have hc1 := cell_ext hcell hE; have HO := Lib.hid hO; clear hO; obtain ⟨a2, c2, rfl, _⟩ := row_take HO.out))
        go_quiet ((go_at_call 90; exact quiet_eq (Hso.out ▸ specSumOf_c _ m _ (rowC.vext HO.out.view (Ext.drewN _ _)))))
        go_wp2
        go_ret2
        exact ⟨_, rfl, hE.trans ((Ext.drewN _ _).trans (Ext.alloc _ _)), row_empty _ _ _ hE.size⟩
      · have hx0 : chk m = x := by simpa using hx
        rw [if_pos (by simp [hx0])]
        have hx' : (chk m != x) = false := by rw [bne_eq_false_iff_eq]; exact hx0
        have Hx := Lib.hid hx0; clear hx hx0
        go_enter Try.func53, Try.ntmps53
        go_wp2_with (first
          | (go_at_call 89; refine (specRowOk_c _ _ _ H.out).mono ?_; rintro e w' ⟨rfl, rfl⟩)
          | (go_at_call 88; refine (l1Copy_c _ m _ HP.out (by omega)).mono ?_; rintro e w1 ⟨v', rfl, hE, hO⟩; have hc1 := cell_ext hcell hE; have HO := Lib.hid hO; clear hO; obtain ⟨a2, c2, rfl, _⟩ := row_take HO.out))
        go_quiet ((go_at_call 90; exact quiet_eq (Hso.out ▸ specSumOf_c _ m _ (rowC.vext HO.out.view (Ext.drewN _ _)))))
        go_wp2
        go_ret2
        exact ⟨_, rfl, hE.trans (Ext.drewN _ _), HO.out.ext (Ext.drewN _ _)⟩
  · have : l = [] := List.eq_nil_of_length_eq_zero (by omega)
    subst this
    rw [unsum_nil]
    have H := Lib.hid h
    obtain ⟨a, cap, rfl, h1, h2, hc⟩ := row_open h
    clear h hl hc
    have hro : rowOk [] = true := rfl
    simp only [List.length_nil] at *
    go_enter Try.func53, Try.ntmps53
    go_wp2_with (go_at_call 89; refine (specRowOk_c _ [] _ H.out).mono ?_; rw [hro]; rintro e w' ⟨rfl, rfl⟩)
    go_ret2
    exact ⟨_, rfl, Ext.alloc _ _, row_empty _ _ _ (Nat.le_refl _)⟩

end Go.Proofs.Ytbapomhoipdanaa
