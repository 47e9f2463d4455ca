/- The law FnExactUnpacked is true for every input: it returns true, and what it was given reads as before. -/
import Derived.Test.YtdkhghnhggedbaaTied
import Derived.Test.YtdkhghnhggedbaaUp4
set_option linter.unusedVariables false
set_option linter.unusedSimpArgs false
namespace Go.Proofs.Ytdkhghnhggedbaa
open Go.RowKit Go.Sl

theorem cntL_appendU (cnt : List Int → Nat) (a b : List (List Int)) : cntL cnt (a ++ b) = cntL cnt a + cntL cnt b := by
  induction a with
  | nil => simp [cntL]
  | cons x l ih => simp only [List.cons_append, cntL, ih]; omega
theorem unpK_cnt {row : List Int} {k : Nat} {o : List (List Int)} {t : Nat} (h : unpK row k = some (o, t)) : o.length + cntL rcnt o ≤ t := by
  induction k generalizing o t with
  | zero => cases h; simp [cntL]
  | succ k ih =>
    rw [unpK] at h
    cases hk : unpK row k with
    | none => rw [hk] at h; cases h
    | some q =>
      obtain ⟨o', t'⟩ := q
      have := ih hk
      rw [hk] at h
      dsimp only at h
      split at h
      · cases h
        rw [cntL_appendU]
        simp only [List.length_append, List.length_singleton, cntL, rcnt, List.length_take, List.length_drop]
        omega
      · cases h
theorem unpacked_cnt (row : List Int) : (unpacked row).1.length + cntL rcnt (unpacked row).1 ≤ 48 := by
  unfold unpacked
  split
  · rename_i h
    have := rowOk_len h.1
    split
    · rename_i o t hk
      have := unpK_cnt hk
      split
      · dsimp only; omega
      · simp [cntL]
    · simp [cntL]
  · simp [cntL]

set_option maxHeartbeats 4000000 in
set_option maxRecDepth 100000 in
theorem exactunpacked_c (W : World) (args : Array Value) (hs : args.size = 1) (h : ∀ (j : Nat) t v, Try.f7.params[j]? = some t → args[j]? = some v → ArgOk Try.prog W t v) :
    Calls Try.prog 7 args W fun e W' => e = .returned (.bool true) ∧ Ext W W' := by
  match args, hs with
  | ⟨[a0]⟩, _ =>
    obtain ⟨d_Row, H_Row'⟩ := (h 0 _ a0 rfl rfl).slice (R := intC) Try.underlying25 tiedRow
    have H_Row : Hid (rowC.V W [a0] d_Row) := H_Row'
    obtain ⟨s_Row, c_Row, rfl, l_Row, m_Row⟩ := row_len H_Row'; clear H_Row'
    clear h
    have bnd := unpacked_cnt d_Row
    by_cases small_Row : (d_Row).length ≤ 1048576
    rotate_left
    · go_enter Try.func7, Try.ntmps7
      go_wp2
      go_ret
      exact ⟨rfl, by repeat (first | with_reducible exact Ext.refl _ | with_reducible assumption | with_reducible refine Ext.pAlloc ?_ _ | ((with_reducible refine Ext.pSet ?_ ?_ _); rotate_left; (simp <;> omega)) | with_reducible refine Ext.pDrew ?_ | with_reducible refine Ext.pDrewN ?_ _ | with_reducible refine Ext.trans ?_ (by with_reducible assumption))⟩
    go_enter Try.func7, Try.ntmps7
    have X : Ext W W := Ext.refl W
    go_wp2_with fail
    refine (toInt64S_c _ d_Row _ (rowC.vext H_Row.out (X)) (by first | omega | exact sz_Row)).mono ?_
    rintro e w1 ⟨v_tRow, rfl, Ew1, O_tRow⟩
    replace O_tRow := O_tRow.wide (lo' := W.heap.size) (hi' := w1.heap.size) (by simp) (Nat.le_refl _)
    have Ew1c : Ext W w1 := Ew1
    have Sw1 : W.heap.size ≤ w1.heap.size := by have := Ew1.size; (try simp at this); omega
    replace X := X.trans Ew1c
    clear Ew1 Ew1c
    go_wp2_with fail
    refine (specUnpacked_c _ _ _ O_tRow.view).mono ?_
    rintro e w2 ⟨v_w0r0, rfl, Ew2, O_w0r0⟩
    replace O_w0r0 := O_w0r0.wide (lo' := w1.heap.size) (hi' := w2.heap.size) (by simp) (Nat.le_refl _)
    have Ew2c : Ext w1 w2 := Ew2
    replace O_tRow := O_tRow.ext Ew2c
    have Sw2 : w1.heap.size ≤ w2.heap.size := by have := Ew2.size; (try simp at this); omega
    replace X := X.trans Ew2c
    clear Ew2 Ew2c
    clear O_tRow
    go_wp2_with fail
    refine (toInt64S_c _ d_Row _ (rowC.vext H_Row.out (X)) (by first | omega | exact sz_Row)).mono ?_
    rintro e w3 ⟨v_xRow, rfl, Ew3, O_xRow⟩
    replace O_xRow := O_xRow.wide (lo' := w2.heap.size) (hi' := w3.heap.size) (by simp) (Nat.le_refl _)
    have Ew3c : Ext w2 w3 := Ew3
    replace O_w0r0 := O_w0r0.ext Ew3c
    have Sw3 : w2.heap.size ≤ w3.heap.size := by have := Ew3.size; (try simp at this); omega
    replace X := X.trans Ew3c
    clear Ew3 Ew3c
    go_wp2_with fail
    refine (implUnpacked_c _ _ _ O_xRow.view).mono ?_
    rintro e w4 ⟨v_g0r0, rfl, Ew4, O_g0r0⟩
    replace O_g0r0 := O_g0r0.wide (lo' := w3.heap.size) (hi' := w4.heap.size) (by simp) (Nat.le_refl _)
    have Ew4c : Ext w3 w4 := Ew4
    replace O_w0r0 := O_w0r0.ext Ew4c
    replace O_xRow := O_xRow.ext Ew4c
    have Sw4 : w3.heap.size ≤ w4.heap.size := by have := Ew4.size; (try simp at this); omega
    replace X := X.trans Ew4c
    clear Ew4 Ew4c
    go_wp2_with fail
    refine (eqInt64SS_c _ _ _ _ _ O_g0r0.view O_w0r0.view).mono ?_
    rintro e w5 ⟨rfl, Ew5⟩
    have Ew5c : Ext w4 w5 := Ew5
    replace O_w0r0 := O_w0r0.ext Ew5c
    replace O_xRow := O_xRow.ext Ew5c
    replace O_g0r0 := O_g0r0.ext Ew5c
    have Sw5 : w4.heap.size ≤ w5.heap.size := by have := Ew5.size; (try simp at this); omega
    replace X := X.trans Ew5c
    clear Ew5 Ew5c
    go_wp2_with fail
    refine (toInt64S_c _ d_Row _ (rowC.vext H_Row.out (X)) (by first | omega | exact sz_Row)).mono ?_
    rintro e w6 ⟨v_yRow, rfl, Ew6, O_yRow⟩
    replace O_yRow := O_yRow.wide (lo' := w5.heap.size) (hi' := w6.heap.size) (by simp) (Nat.le_refl _)
    have Ew6c : Ext w5 w6 := Ew6
    replace O_w0r0 := O_w0r0.ext Ew6c
    replace O_xRow := O_xRow.ext Ew6c
    replace O_g0r0 := O_g0r0.ext Ew6c
    have Sw6 : w5.heap.size ≤ w6.heap.size := by have := Ew6.size; (try simp at this); omega
    replace X := X.trans Ew6c
    clear Ew6 Ew6c
    go_wp2_with fail
    refine (eqInt64S_c _ _ _ _ _ O_xRow.view O_yRow.view).mono ?_
    rintro e w7 ⟨rfl, Ew7⟩
    have Ew7c : Ext w6 w7 := Ew7
    replace O_w0r0 := O_w0r0.ext Ew7c
    replace O_xRow := O_xRow.ext Ew7c
    replace O_g0r0 := O_g0r0.ext Ew7c
    replace O_yRow := O_yRow.ext Ew7c
    have Sw7 : w6.heap.size ≤ w7.heap.size := by have := Ew7.size; (try simp at this); omega
    replace X := X.trans Ew7c
    clear Ew7 Ew7c
    clear O_yRow
    go_wp2_with fail
    refine (markInt64S_c _ _ _ _ _ _ O_xRow (by omega) (by omega)).mono ?_
    rintro e w8 ⟨rfl, Cw8, Zw8, O_xRow'⟩
    replace O_w0r0 := O_w0r0.chg Cw8 (by omega)
    replace O_g0r0 := O_g0r0.chg Cw8 (by omega)
    clear O_xRow
    have O_xRow := O_xRow'
    clear O_xRow'
    have Sw8 : w7.heap.size ≤ w8.heap.size := Cw8.size
    replace X := Chg.ext X Cw8 (by omega)
    clear Cw8 Zw8
    clear O_xRow
    go_wp2_with fail
    refine (eqInt64SS_c _ _ _ _ _ O_g0r0.view O_w0r0.view).mono ?_
    rintro e w9 ⟨rfl, Ew9⟩
    have Ew9c : Ext w8 w9 := Ew9
    replace O_w0r0 := O_w0r0.ext Ew9c
    replace O_g0r0 := O_g0r0.ext Ew9c
    have Sw9 : w8.heap.size ≤ w9.heap.size := by have := Ew9.size; (try simp at this); omega
    replace X := X.trans Ew9c
    clear Ew9 Ew9c
    go_wp2_with fail
    refine (markInt64SS_c _ _ _ _ _ _ O_g0r0 (by omega) (by omega)).mono ?_
    rintro e w10 ⟨rfl, Cw10, Zw10, O_g0r0'⟩
    replace O_w0r0 := O_w0r0.chg Cw10 (by omega)
    clear O_g0r0
    have O_g0r0 := O_g0r0'
    clear O_g0r0'
    have Sw10 : w9.heap.size ≤ w10.heap.size := Cw10.size
    replace X := Chg.ext X Cw10 (by omega)
    clear Cw10 Zw10
    go_wp2_with fail
    refine (heldInt64SS_c _ ((unpacked d_Row).1) _ _ O_g0r0.view (by omega) (by omega)).mono ?_
    rintro e w11 ⟨rfl, Ew11⟩
    have Ew11c : Ext w10 w11 := Ew11
    replace O_w0r0 := O_w0r0.ext Ew11c
    replace O_g0r0 := O_g0r0.ext Ew11c
    have Sw11 : w10.heap.size ≤ w11.heap.size := by have := Ew11.size; (try simp at this); omega
    replace X := X.trans Ew11c
    clear Ew11 Ew11c
    go_wp2_with fail
    refine (toInt64S_c _ d_Row _ (rowC.vext H_Row.out (X)) (by first | omega | exact sz_Row)).mono ?_
    rintro e w12 ⟨v_uRow, rfl, Ew12, O_uRow⟩
    replace O_uRow := O_uRow.wide (lo' := w11.heap.size) (hi' := w12.heap.size) (by simp) (Nat.le_refl _)
    have Ew12c : Ext w11 w12 := Ew12
    replace O_w0r0 := O_w0r0.ext Ew12c
    replace O_g0r0 := O_g0r0.ext Ew12c
    have Sw12 : w11.heap.size ≤ w12.heap.size := by have := Ew12.size; (try simp at this); omega
    replace X := X.trans Ew12c
    clear Ew12 Ew12c
    go_wp2_with fail
    refine (implUnpacked_c _ _ _ O_uRow.view).mono ?_
    rintro e w13 ⟨v_h0r0, rfl, Ew13, O_h0r0⟩
    replace O_h0r0 := O_h0r0.wide (lo' := w12.heap.size) (hi' := w13.heap.size) (by simp) (Nat.le_refl _)
    have Ew13c : Ext w12 w13 := Ew13
    replace O_w0r0 := O_w0r0.ext Ew13c
    replace O_g0r0 := O_g0r0.ext Ew13c
    replace O_uRow := O_uRow.ext Ew13c
    have Sw13 : w12.heap.size ≤ w13.heap.size := by have := Ew13.size; (try simp at this); omega
    replace X := X.trans Ew13c
    clear Ew13 Ew13c
    clear O_uRow
    go_wp2_with fail
    refine (eqInt64SS_c _ _ _ _ _ O_h0r0.view O_w0r0.view).mono ?_
    rintro e w14 ⟨rfl, Ew14⟩
    have Ew14c : Ext w13 w14 := Ew14
    replace O_w0r0 := O_w0r0.ext Ew14c
    replace O_g0r0 := O_g0r0.ext Ew14c
    replace O_h0r0 := O_h0r0.ext Ew14c
    have Sw14 : w13.heap.size ≤ w14.heap.size := by have := Ew14.size; (try simp at this); omega
    replace X := X.trans Ew14c
    clear Ew14 Ew14c
    go_wp2_with fail
    refine (heldInt64SS_c _ ((unpacked d_Row).1) _ _ O_g0r0.view (by omega) (by omega)).mono ?_
    rintro e w15 ⟨rfl, Ew15⟩
    have Ew15c : Ext w14 w15 := Ew15
    replace O_w0r0 := O_w0r0.ext Ew15c
    replace O_g0r0 := O_g0r0.ext Ew15c
    replace O_h0r0 := O_h0r0.ext Ew15c
    have Sw15 : w14.heap.size ≤ w15.heap.size := by have := Ew15.size; (try simp at this); omega
    replace X := X.trans Ew15c
    clear Ew15 Ew15c
    go_wp2
    go_ret
    exact ⟨rfl, X⟩

set_option maxRecDepth 100000 in
theorem exactunpacked_holds : Rows.FnExactUnpackedSaid :=
  OpenClaim.holds_of_wide 7 Try.f7 rfl rfl rfl rfl rfl rfl rfl ⟨rfl, rfl, rfl, rfl, rfl⟩ rfl rfl rfl rfl rfl (by kernel_rfl) Try.func7 (by kernel_rfl)
    (of_decide_eq_true (by kernel_rfl)) (by unfold Func.isWrapper; rw [if_neg (of_decide_eq_false (by kernel_rfl))]; exact ⟨rfl, rfl⟩)
    (fun os started H enc _ => law_lifted (C := Try.checked) (f := 7) (fn := Try.f7) (s := Rows.fnExactUnpackedSpec) (tb := 4) Try.own started (by kernel_rfl) Try.func7 Try.laidOut (of_decide_eq_true (by kernel_rfl)) rfl Try.underlying4 rfl
      (fun ds h => by match ds, h with | [_], _ => exact ⟨rfl, rfl, rfl⟩)
      (ChangeSpec.witness6 (enc := enc) (C := Try.checked) false ⟨#[], #[.slice none 0 0], []⟩ 8 (by kernel_rfl) (by kernel_rfl) (by kernel_rfl) (by kernel_rfl))
      exactunpacked_c)

end Go.Proofs.Ytdkhghnhggedbaa
