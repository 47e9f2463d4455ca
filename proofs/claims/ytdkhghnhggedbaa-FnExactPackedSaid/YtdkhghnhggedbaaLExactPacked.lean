/- The law FnExactPacked is true for every input: it returns true, and what it was given reads as before. -/
import Derived.Test.YtdkhghnhggedbaaTied
import Derived.Test.YtdkhghnhggedbaaPk
set_option linter.unusedVariables false
set_option linter.unusedSimpArgs false
namespace Go.Proofs.Ytdkhghnhggedbaa
open Go.RowKit Go.Sl

set_option maxRecDepth 100000 in
theorem tiedRows : Tied Try.prog rowsC 39 := Tied.slice Try.underlying39 rfl (by decide) tiedRow
theorem rows_len {w : World} {v : Value} {l : List (List Int)} (h : rowsC.V w [v] l) : ∃ a cap, v = .slice a l.length cap ∧ l.length ≤ cap ∧ cap ≤ 9223372036854775807 :=
  let ⟨a, cap, h1, h2, h3, _⟩ := slice_open1 (R := rowC) rfl h; ⟨a, cap, h1, h2, h3⟩
theorem cntL_mem' {l : List (List Int)} {x : List Int} (h : x ∈ l) : x.length ≤ cntL rcnt l := by
  induction l with
  | nil => cases h
  | cons y l ih =>
    unfold cntL
    rcases List.mem_cons.1 h with rfl | h
    · unfold rcnt; omega
    · have := ih h; omega
theorem szInt64SS_small (l : List (List Int)) (q : Int) (h0 : -1 ≤ q) (h1 : q ≤ 1048576) : (-1 ≤ szI (l.length + cntL rcnt l) q ∧ szI (l.length + cntL rcnt l) q ≤ 1048576) ∧ (¬ szI (l.length + cntL rcnt l) q < 0 → (l.length ≤ 2097152 ∧ ∀ x ∈ l, x.length ≤ 2097152) ∧ cntL rcnt l ≤ 1048576) := by
  unfold szI
  split
  · exact ⟨⟨by omega, by omega⟩, fun h => absurd (by omega) h⟩
  · refine ⟨⟨by omega, by omega⟩, fun _ => ⟨⟨by omega, fun x hx => ?_⟩, by omega⟩⟩
    have := cntL_mem' hx
    omega

set_option maxHeartbeats 4000000 in
set_option maxRecDepth 100000 in
theorem exactpacked_c (W : World) (args : Array Value) (hs : args.size = 1) (h : ∀ (j : Nat) t v, Try.f6.params[j]? = some t → args[j]? = some v → ArgOk Try.prog W t v) :
    Calls Try.prog 6 args W fun e W' => e = .returned (.bool true) ∧ Ext W W' := by
  match args, hs with
  | ⟨[a0]⟩, _ =>
    obtain ⟨d_Rows, H_Rows'⟩ := (h 0 _ a0 rfl rfl).slice (R := rowC) Try.underlying39 tiedRows
    have H_Rows : Hid (rowsC.V W [a0] d_Rows) := H_Rows'
    obtain ⟨s_Rows, c_Rows, rfl, l_Rows, m_Rows⟩ := rows_len H_Rows'; clear H_Rows'
    clear h
    have bnd := packed_len d_Rows
    have sz_Rows := szInt64SS_small d_Rows 1048576 (by omega) (by omega)
    by_cases neg_Rows : szI ((d_Rows).length + cntL rcnt (d_Rows)) 1048576 < 0
    · go_enter Try.func6, Try.ntmps6
      have X : Ext W W := Ext.refl W
      go_wp2_with fail
      refine (szInt64SS_c _ d_Rows _ _ (rowsC.vext H_Rows.out (X)) (by omega) (by omega)).mono ?_
      rintro e w1 ⟨rfl, Ew1⟩
      have Ew1c : Ext W w1 := Ew1
      have Sw1 : W.heap.size ≤ w1.heap.size := by have := Ew1.size; (try simp at this); omega
      replace X := X.trans Ew1c
      clear Ew1 Ew1c
      go_wp2
      go_ret
      exact ⟨rfl, by first | exact X | (repeat (first | with_reducible exact Ext.refl _ | with_reducible assumption | with_reducible refine Ext.pAlloc ?_ _ | ((with_reducible refine Ext.pSet ?_ ?_ _); rotate_left; (simp <;> omega)) | with_reducible refine Ext.pDrew ?_ | with_reducible refine Ext.pDrewN ?_ _ | with_reducible refine Ext.trans ?_ (by with_reducible assumption)))⟩
    replace sz_Rows := sz_Rows.2 neg_Rows
    have szc_Rows := sz_Rows.2
    replace sz_Rows := sz_Rows.1
    go_enter Try.func6, Try.ntmps6
    have X : Ext W W := Ext.refl W
    go_wp2_with fail
    refine (szInt64SS_c _ d_Rows _ _ (rowsC.vext H_Rows.out (X)) (by omega) (by omega)).mono ?_
    rintro e w1 ⟨rfl, Ew1⟩
    have Ew1c : Ext W w1 := Ew1
    have Sw1 : W.heap.size ≤ w1.heap.size := by have := Ew1.size; (try simp at this); omega
    replace X := X.trans Ew1c
    clear Ew1 Ew1c
    go_wp2_with fail
    refine (toInt64SS_c _ d_Rows _ (rowsC.vext H_Rows.out (X)) (by first | omega | exact sz_Rows)).mono ?_
    rintro e w2 ⟨v_tRows, rfl, Ew2, O_tRows⟩
    replace O_tRows := O_tRows.wide (lo' := w1.heap.size) (hi' := w2.heap.size) (by simp) (Nat.le_refl _)
    have Ew2c : Ext w1 w2 := Ew2
    have Sw2 : w1.heap.size ≤ w2.heap.size := by have := Ew2.size; (try simp at this); omega
    replace X := X.trans Ew2c
    clear Ew2 Ew2c
    go_wp2_with fail
    refine (specPacked_c _ _ _ O_tRows.view).mono ?_
    rintro e w3 ⟨v_w0r0, rfl, Ew3, O_w0r0⟩
    replace O_w0r0 := O_w0r0.wide (lo' := w2.heap.size) (hi' := w3.heap.size) (by simp) (Nat.le_refl _)
    have Ew3c : Ext w2 w3 := Ew3
    replace O_tRows := O_tRows.ext Ew3c
    have Sw3 : w2.heap.size ≤ w3.heap.size := by have := Ew3.size; (try simp at this); omega
    replace X := X.trans Ew3c
    clear Ew3 Ew3c
    clear O_tRows
    go_wp2_with fail
    refine (toInt64SS_c _ d_Rows _ (rowsC.vext H_Rows.out (X)) (by first | omega | exact sz_Rows)).mono ?_
    rintro e w4 ⟨v_xRows, rfl, Ew4, O_xRows⟩
    replace O_xRows := O_xRows.wide (lo' := w3.heap.size) (hi' := w4.heap.size) (by simp) (Nat.le_refl _)
    have Ew4c : Ext w3 w4 := Ew4
    replace O_w0r0 := O_w0r0.ext Ew4c
    have Sw4 : w3.heap.size ≤ w4.heap.size := by have := Ew4.size; (try simp at this); omega
    replace X := X.trans Ew4c
    clear Ew4 Ew4c
    go_wp2_with fail
    refine (implPacked_c _ _ _ O_xRows.view).mono ?_
    rintro e w5 ⟨v_g0r0, rfl, Ew5, O_g0r0⟩
    replace O_g0r0 := O_g0r0.wide (lo' := w4.heap.size) (hi' := w5.heap.size) (by simp) (Nat.le_refl _)
    have Ew5c : Ext w4 w5 := Ew5
    replace O_w0r0 := O_w0r0.ext Ew5c
    replace O_xRows := O_xRows.ext Ew5c
    have Sw5 : w4.heap.size ≤ w5.heap.size := by have := Ew5.size; (try simp at this); omega
    replace X := X.trans Ew5c
    clear Ew5 Ew5c
    go_wp2_with fail
    refine (eqInt64S_c _ _ _ _ _ O_g0r0.view O_w0r0.view).mono ?_
    rintro e w6 ⟨rfl, Ew6⟩
    have Ew6c : Ext w5 w6 := Ew6
    replace O_w0r0 := O_w0r0.ext Ew6c
    replace O_xRows := O_xRows.ext Ew6c
    replace O_g0r0 := O_g0r0.ext Ew6c
    have Sw6 : w5.heap.size ≤ w6.heap.size := by have := Ew6.size; (try simp at this); omega
    replace X := X.trans Ew6c
    clear Ew6 Ew6c
    go_wp2_with fail
    refine (toInt64SS_c _ d_Rows _ (rowsC.vext H_Rows.out (X)) (by first | omega | exact sz_Rows)).mono ?_
    rintro e w7 ⟨v_yRows, rfl, Ew7, O_yRows⟩
    replace O_yRows := O_yRows.wide (lo' := w6.heap.size) (hi' := w7.heap.size) (by simp) (Nat.le_refl _)
    have Ew7c : Ext w6 w7 := Ew7
    replace O_w0r0 := O_w0r0.ext Ew7c
    replace O_xRows := O_xRows.ext Ew7c
    replace O_g0r0 := O_g0r0.ext Ew7c
    have Sw7 : w6.heap.size ≤ w7.heap.size := by have := Ew7.size; (try simp at this); omega
    replace X := X.trans Ew7c
    clear Ew7 Ew7c
    go_wp2_with fail
    refine (eqInt64SS_c _ _ _ _ _ O_xRows.view O_yRows.view).mono ?_
    rintro e w8 ⟨rfl, Ew8⟩
    have Ew8c : Ext w7 w8 := Ew8
    replace O_w0r0 := O_w0r0.ext Ew8c
    replace O_xRows := O_xRows.ext Ew8c
    replace O_g0r0 := O_g0r0.ext Ew8c
    replace O_yRows := O_yRows.ext Ew8c
    have Sw8 : w7.heap.size ≤ w8.heap.size := by have := Ew8.size; (try simp at this); omega
    replace X := X.trans Ew8c
    clear Ew8 Ew8c
    clear O_yRows
    go_wp2_with fail
    refine (markInt64SS_c _ _ _ _ _ _ O_xRows (by omega) (by omega)).mono ?_
    rintro e w9 ⟨rfl, Cw9, Zw9, O_xRows'⟩
    replace O_w0r0 := O_w0r0.chg Cw9 (by omega)
    replace O_g0r0 := O_g0r0.chg Cw9 (by omega)
    clear O_xRows
    have O_xRows := O_xRows'
    clear O_xRows'
    have Sw9 : w8.heap.size ≤ w9.heap.size := Cw9.size
    replace X := Chg.ext X Cw9 (by omega)
    clear Cw9 Zw9
    clear O_xRows
    go_wp2_with fail
    refine (eqInt64S_c _ _ _ _ _ O_g0r0.view O_w0r0.view).mono ?_
    rintro e w10 ⟨rfl, Ew10⟩
    have Ew10c : Ext w9 w10 := Ew10
    replace O_w0r0 := O_w0r0.ext Ew10c
    replace O_g0r0 := O_g0r0.ext Ew10c
    have Sw10 : w9.heap.size ≤ w10.heap.size := by have := Ew10.size; (try simp at this); omega
    replace X := X.trans Ew10c
    clear Ew10 Ew10c
    go_wp2_with fail
    refine (markInt64S_c _ _ _ _ _ _ O_g0r0 (by omega) (by omega)).mono ?_
    rintro e w11 ⟨rfl, Cw11, Zw11, O_g0r0'⟩
    replace O_w0r0 := O_w0r0.chg Cw11 (by omega)
    clear O_g0r0
    have O_g0r0 := O_g0r0'
    clear O_g0r0'
    have Sw11 : w10.heap.size ≤ w11.heap.size := Cw11.size
    replace X := Chg.ext X Cw11 (by omega)
    clear Cw11 Zw11
    go_wp2_with fail
    refine (heldInt64S_c _ (packed d_Rows) _ _ O_g0r0.view (by omega) (by omega)).mono ?_
    rintro e w12 ⟨rfl, Ew12⟩
    have Ew12c : Ext w11 w12 := Ew12
    replace O_w0r0 := O_w0r0.ext Ew12c
    replace O_g0r0 := O_g0r0.ext Ew12c
    have Sw12 : w11.heap.size ≤ w12.heap.size := by have := Ew12.size; (try simp at this); omega
    replace X := X.trans Ew12c
    clear Ew12 Ew12c
    go_wp2_with fail
    refine (toInt64SS_c _ d_Rows _ (rowsC.vext H_Rows.out (X)) (by first | omega | exact sz_Rows)).mono ?_
    rintro e w13 ⟨v_uRows, rfl, Ew13, O_uRows⟩
    replace O_uRows := O_uRows.wide (lo' := w12.heap.size) (hi' := w13.heap.size) (by simp) (Nat.le_refl _)
    have Ew13c : Ext w12 w13 := Ew13
    replace O_w0r0 := O_w0r0.ext Ew13c
    replace O_g0r0 := O_g0r0.ext Ew13c
    have Sw13 : w12.heap.size ≤ w13.heap.size := by have := Ew13.size; (try simp at this); omega
    replace X := X.trans Ew13c
    clear Ew13 Ew13c
    go_wp2_with fail
    refine (implPacked_c _ _ _ O_uRows.view).mono ?_
    rintro e w14 ⟨v_h0r0, rfl, Ew14, O_h0r0⟩
    replace O_h0r0 := O_h0r0.wide (lo' := w13.heap.size) (hi' := w14.heap.size) (by simp) (Nat.le_refl _)
    have Ew14c : Ext w13 w14 := Ew14
    replace O_w0r0 := O_w0r0.ext Ew14c
    replace O_g0r0 := O_g0r0.ext Ew14c
    replace O_uRows := O_uRows.ext Ew14c
    have Sw14 : w13.heap.size ≤ w14.heap.size := by have := Ew14.size; (try simp at this); omega
    replace X := X.trans Ew14c
    clear Ew14 Ew14c
    clear O_uRows
    go_wp2_with fail
    refine (eqInt64S_c _ _ _ _ _ O_h0r0.view O_w0r0.view).mono ?_
    rintro e w15 ⟨rfl, Ew15⟩
    have Ew15c : Ext w14 w15 := Ew15
    replace O_w0r0 := O_w0r0.ext Ew15c
    replace O_g0r0 := O_g0r0.ext Ew15c
    replace O_h0r0 := O_h0r0.ext Ew15c
    have Sw15 : w14.heap.size ≤ w15.heap.size := by have := Ew15.size; (try simp at this); omega
    replace X := X.trans Ew15c
    clear Ew15 Ew15c
    go_wp2_with fail
    refine (heldInt64S_c _ (packed d_Rows) _ _ O_g0r0.view (by omega) (by omega)).mono ?_
    rintro e w16 ⟨rfl, Ew16⟩
    have Ew16c : Ext w15 w16 := Ew16
    replace O_w0r0 := O_w0r0.ext Ew16c
    replace O_g0r0 := O_g0r0.ext Ew16c
    replace O_h0r0 := O_h0r0.ext Ew16c
    have Sw16 : w15.heap.size ≤ w16.heap.size := by have := Ew16.size; (try simp at this); omega
    replace X := X.trans Ew16c
    clear Ew16 Ew16c
    go_wp2
    go_ret
    exact ⟨rfl, X⟩

set_option maxRecDepth 100000 in
theorem exactpacked_holds : Rows.FnExactPackedSaid :=
  OpenClaim.holds_of_wide 6 Try.f6 rfl rfl rfl rfl rfl rfl rfl ⟨rfl, rfl, rfl, rfl, rfl⟩ rfl rfl rfl rfl rfl (by kernel_rfl) Try.func6 (by kernel_rfl)
    (of_decide_eq_true (by kernel_rfl)) (by unfold Func.isWrapper; rw [if_neg (of_decide_eq_false (by kernel_rfl))]; exact ⟨rfl, rfl⟩)
    (fun os started H enc _ => law_lifted (C := Try.checked) (f := 6) (fn := Try.f6) (s := Rows.fnExactPackedSpec) (tb := 4) Try.own started (by kernel_rfl) Try.func6 Try.laidOut (of_decide_eq_true (by kernel_rfl)) rfl Try.underlying4 rfl
      (fun ds h => by match ds, h with | [_], _ => exact ⟨rfl, rfl, rfl⟩)
      (ChangeSpec.witness6 (enc := enc) (C := Try.checked) false ⟨#[], #[.slice none 0 0], []⟩ 8 (by kernel_rfl) (by kernel_rfl) (by kernel_rfl) (by kernel_rfl))
      exactpacked_c)

end Go.Proofs.Ytdkhghnhggedbaa
