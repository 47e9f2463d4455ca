/- The law FnExactUnsummed is true for every input: it returns true, and what it was given reads as before. -/
import Derived.Test.YtdkhghnhggedbaaTied
set_option linter.unusedVariables false
set_option linter.unusedSimpArgs false
namespace Go.Proofs.Ytdkhghnhggedbaa
open Go.RowKit Go.Sl

set_option maxHeartbeats 4000000 in
set_option maxRecDepth 100000 in
theorem exactunsummed_c (W : World) (args : Array Value) (hs : args.size = 1) (h : ∀ (j : Nat) t v, Try.f4.params[j]? = some t → args[j]? = some v → ArgOk Try.prog W t v) :
    Calls Try.prog 4 args W fun e W' => e = .returned (.bool true) ∧ Ext W W' := by
  match args, hs with
  | ⟨[a0]⟩, _ =>
    obtain ⟨d_R, H_R'⟩ := (h 0 _ a0 rfl rfl).slice (R := intC) Try.underlying25 tiedRow
    have H_R : Hid (rowC.V W [a0] d_R) := H_R'
    obtain ⟨s_R, c_R, rfl, l_R, m_R⟩ := row_len H_R'; clear H_R'
    clear h
    have bnd := unsum_len d_R
    by_cases small_R : (d_R).length ≤ 1048576
    rotate_left
    · go_enter Try.func4, Try.ntmps4
      go_wp2
      go_ret
      exact ⟨rfl, by repeat (first | with_reducible exact Ext.refl _ | with_reducible assumption | with_reducible refine Ext.pAlloc ?_ _ | ((with_reducible refine Ext.pSet ?_ ?_ _); rotate_left; (simp <;> omega)) | with_reducible refine Ext.pDrew ?_ | with_reducible refine Ext.pDrewN ?_ _ | with_reducible refine Ext.trans ?_ (by with_reducible assumption))⟩
    go_enter Try.func4, Try.ntmps4
    have X : Ext W W := Ext.refl W
    go_wp2_with fail
    refine (toInt64S_c _ d_R _ (rowC.vext H_R.out (X)) (by omega)).mono ?_
    rintro e w1 ⟨v_tR, rfl, Ew1, O_tR⟩
    replace O_tR := O_tR.wide (lo' := W.heap.size) (hi' := w1.heap.size) (by simp) (Nat.le_refl _)
    have Ew1c : Ext W w1 := Ew1
    have Sw1 : W.heap.size ≤ w1.heap.size := by have := Ew1.size; (try simp at this); omega
    replace X := X.trans Ew1c
    clear Ew1 Ew1c
    go_wp2_with fail
    refine (specUnsummed_c _ _ _ O_tR.view).mono ?_
    rintro e w2 ⟨v_w0r0, rfl, Ew2, O_w0r0⟩
    replace O_w0r0 := O_w0r0.wide (lo' := w1.heap.size) (hi' := w2.heap.size) (by simp) (Nat.le_refl _)
    have Ew2c : Ext w1 w2 := Ew2
    replace O_tR := O_tR.ext Ew2c
    have Sw2 : w1.heap.size ≤ w2.heap.size := by have := Ew2.size; (try simp at this); omega
    replace X := X.trans Ew2c
    clear Ew2 Ew2c
    clear O_tR
    go_wp2_with fail
    refine (toInt64S_c _ d_R _ (rowC.vext H_R.out (X)) (by omega)).mono ?_
    rintro e w3 ⟨v_xR, rfl, Ew3, O_xR⟩
    replace O_xR := O_xR.wide (lo' := w2.heap.size) (hi' := w3.heap.size) (by simp) (Nat.le_refl _)
    have Ew3c : Ext w2 w3 := Ew3
    replace O_w0r0 := O_w0r0.ext Ew3c
    have Sw3 : w2.heap.size ≤ w3.heap.size := by have := Ew3.size; (try simp at this); omega
    replace X := X.trans Ew3c
    clear Ew3 Ew3c
    go_wp2_with fail
    refine (implUnsummed_c _ _ _ O_xR.view).mono ?_
    rintro e w4 ⟨v_g0r0, rfl, Ew4, O_g0r0⟩
    replace O_g0r0 := O_g0r0.wide (lo' := w3.heap.size) (hi' := w4.heap.size) (by simp) (Nat.le_refl _)
    have Ew4c : Ext w3 w4 := Ew4
    replace O_w0r0 := O_w0r0.ext Ew4c
    replace O_xR := O_xR.ext Ew4c
    have Sw4 : w3.heap.size ≤ w4.heap.size := by have := Ew4.size; (try simp at this); omega
    replace X := X.trans Ew4c
    clear Ew4 Ew4c
    go_wp2_with fail
    refine (eqInt64S_c _ _ _ _ _ O_g0r0.view O_w0r0.view).mono ?_
    rintro e w5 ⟨rfl, Ew5⟩
    have Ew5c : Ext w4 w5 := Ew5
    replace O_w0r0 := O_w0r0.ext Ew5c
    replace O_xR := O_xR.ext Ew5c
    replace O_g0r0 := O_g0r0.ext Ew5c
    have Sw5 : w4.heap.size ≤ w5.heap.size := by have := Ew5.size; (try simp at this); omega
    replace X := X.trans Ew5c
    clear Ew5 Ew5c
    go_wp2_with fail
    refine (toInt64S_c _ d_R _ (rowC.vext H_R.out (X)) (by omega)).mono ?_
    rintro e w6 ⟨v_yR, rfl, Ew6, O_yR⟩
    replace O_yR := O_yR.wide (lo' := w5.heap.size) (hi' := w6.heap.size) (by simp) (Nat.le_refl _)
    have Ew6c : Ext w5 w6 := Ew6
    replace O_w0r0 := O_w0r0.ext Ew6c
    replace O_xR := O_xR.ext Ew6c
    replace O_g0r0 := O_g0r0.ext Ew6c
    have Sw6 : w5.heap.size ≤ w6.heap.size := by have := Ew6.size; (try simp at this); omega
    replace X := X.trans Ew6c
    clear Ew6 Ew6c
    go_wp2_with fail
    refine (eqInt64S_c _ _ _ _ _ O_xR.view O_yR.view).mono ?_
    rintro e w7 ⟨rfl, Ew7⟩
    have Ew7c : Ext w6 w7 := Ew7
    replace O_w0r0 := O_w0r0.ext Ew7c
    replace O_xR := O_xR.ext Ew7c
    replace O_g0r0 := O_g0r0.ext Ew7c
    replace O_yR := O_yR.ext Ew7c
    have Sw7 : w6.heap.size ≤ w7.heap.size := by have := Ew7.size; (try simp at this); omega
    replace X := X.trans Ew7c
    clear Ew7 Ew7c
    clear O_yR
    go_wp2_with fail
    refine (markInt64S_c _ _ _ _ _ _ O_xR (by omega) (by omega)).mono ?_
    rintro e w8 ⟨rfl, Cw8, Zw8, O_xR'⟩
    replace O_w0r0 := O_w0r0.chg Cw8 (by omega)
    replace O_g0r0 := O_g0r0.chg Cw8 (by omega)
    clear O_xR
    have O_xR := O_xR'
    clear O_xR'
    have Sw8 : w7.heap.size ≤ w8.heap.size := Cw8.size
    replace X := Chg.ext X Cw8 (by omega)
    clear Cw8 Zw8
    clear O_xR
    go_wp2_with fail
    refine (eqInt64S_c _ _ _ _ _ O_g0r0.view O_w0r0.view).mono ?_
    rintro e w9 ⟨rfl, Ew9⟩
    have Ew9c : Ext w8 w9 := Ew9
    replace O_w0r0 := O_w0r0.ext Ew9c
    replace O_g0r0 := O_g0r0.ext Ew9c
    have Sw9 : w8.heap.size ≤ w9.heap.size := by have := Ew9.size; (try simp at this); omega
    replace X := X.trans Ew9c
    clear Ew9 Ew9c
    go_wp2_with fail
    refine (markInt64S_c _ _ _ _ _ _ O_g0r0 (by omega) (by omega)).mono ?_
    rintro e w10 ⟨rfl, Cw10, Zw10, O_g0r0'⟩
    replace O_w0r0 := O_w0r0.chg Cw10 (by omega)
    clear O_g0r0
    have O_g0r0 := O_g0r0'
    clear O_g0r0'
    have Sw10 : w9.heap.size ≤ w10.heap.size := Cw10.size
    replace X := Chg.ext X Cw10 (by omega)
    clear Cw10 Zw10
    go_wp2_with fail
    refine (heldInt64S_c _ ((unsum d_R).1) _ _ O_g0r0.view (by omega) (by omega)).mono ?_
    rintro e w11 ⟨rfl, Ew11⟩
    have Ew11c : Ext w10 w11 := Ew11
    replace O_w0r0 := O_w0r0.ext Ew11c
    replace O_g0r0 := O_g0r0.ext Ew11c
    have Sw11 : w10.heap.size ≤ w11.heap.size := by have := Ew11.size; (try simp at this); omega
    replace X := X.trans Ew11c
    clear Ew11 Ew11c
    go_wp2_with fail
    refine (toInt64S_c _ d_R _ (rowC.vext H_R.out (X)) (by omega)).mono ?_
    rintro e w12 ⟨v_uR, rfl, Ew12, O_uR⟩
    replace O_uR := O_uR.wide (lo' := w11.heap.size) (hi' := w12.heap.size) (by simp) (Nat.le_refl _)
    have Ew12c : Ext w11 w12 := Ew12
    replace O_w0r0 := O_w0r0.ext Ew12c
    replace O_g0r0 := O_g0r0.ext Ew12c
    have Sw12 : w11.heap.size ≤ w12.heap.size := by have := Ew12.size; (try simp at this); omega
    replace X := X.trans Ew12c
    clear Ew12 Ew12c
    go_wp2_with fail
    refine (implUnsummed_c _ _ _ O_uR.view).mono ?_
    rintro e w13 ⟨v_h0r0, rfl, Ew13, O_h0r0⟩
    replace O_h0r0 := O_h0r0.wide (lo' := w12.heap.size) (hi' := w13.heap.size) (by simp) (Nat.le_refl _)
    have Ew13c : Ext w12 w13 := Ew13
    replace O_w0r0 := O_w0r0.ext Ew13c
    replace O_g0r0 := O_g0r0.ext Ew13c
    replace O_uR := O_uR.ext Ew13c
    have Sw13 : w12.heap.size ≤ w13.heap.size := by have := Ew13.size; (try simp at this); omega
    replace X := X.trans Ew13c
    clear Ew13 Ew13c
    clear O_uR
    go_wp2_with fail
    refine (eqInt64S_c _ _ _ _ _ O_h0r0.view O_w0r0.view).mono ?_
    rintro e w14 ⟨rfl, Ew14⟩
    have Ew14c : Ext w13 w14 := Ew14
    replace O_w0r0 := O_w0r0.ext Ew14c
    replace O_g0r0 := O_g0r0.ext Ew14c
    replace O_h0r0 := O_h0r0.ext Ew14c
    have Sw14 : w13.heap.size ≤ w14.heap.size := by have := Ew14.size; (try simp at this); omega
    replace X := X.trans Ew14c
    clear Ew14 Ew14c
    go_wp2_with fail
    refine (heldInt64S_c _ ((unsum d_R).1) _ _ O_g0r0.view (by omega) (by omega)).mono ?_
    rintro e w15 ⟨rfl, Ew15⟩
    have Ew15c : Ext w14 w15 := Ew15
    replace O_w0r0 := O_w0r0.ext Ew15c
    replace O_g0r0 := O_g0r0.ext Ew15c
    replace O_h0r0 := O_h0r0.ext Ew15c
    have Sw15 : w14.heap.size ≤ w15.heap.size := by have := Ew15.size; (try simp at this); omega
    replace X := X.trans Ew15c
    clear Ew15 Ew15c
    go_wp2
    go_ret
    exact ⟨rfl, X⟩

set_option maxRecDepth 100000 in
theorem exactunsummed_holds : Rows.FnExactUnsummedSaid :=
  OpenClaim.holds_of_wide 4 Try.f4 rfl rfl rfl rfl rfl rfl rfl ⟨rfl, rfl, rfl, rfl, rfl⟩ rfl rfl rfl rfl rfl (by kernel_rfl) Try.func4 (by kernel_rfl)
    (of_decide_eq_true (by kernel_rfl)) (by unfold Func.isWrapper; rw [if_neg (of_decide_eq_false (by kernel_rfl))]; exact ⟨rfl, rfl⟩)
    (fun os started H enc _ => law_lifted (C := Try.checked) (f := 4) (fn := Try.f4) (s := Rows.fnExactUnsummedSpec) (tb := 4) Try.own started (by kernel_rfl) Try.func4 Try.laidOut (of_decide_eq_true (by kernel_rfl)) rfl Try.underlying4 rfl
      (fun ds h => by match ds, h with | [_], _ => exact ⟨rfl, rfl, rfl⟩)
      (ChangeSpec.witness6 (enc := enc) (C := Try.checked) false ⟨#[], #[.slice none 0 0], []⟩ 8 (by kernel_rfl) (by kernel_rfl) (by kernel_rfl) (by kernel_rfl))
      exactunsummed_c)

end Go.Proofs.Ytdkhghnhggedbaa
