/- The law FnExactClocksOk is true for every input: it returns true, and what it was given reads as before. -/
import Derived.Test.YthgpghgcjjejhaaTied
set_option linter.unusedVariables false
set_option linter.unusedSimpArgs false
namespace Go.Proofs.Ythgpghgcjjejhaa
open Go.RowKit Go.Sl

set_option maxHeartbeats 4000000 in
set_option maxRecDepth 100000 in
theorem exactclocksok_c (W : World) (args : Array Value) (hs : args.size = 1) (h : ∀ (j : Nat) t v, Try.f10.params[j]? = some t → args[j]? = some v → ArgOk Try.prog W t v) :
    Calls Try.prog 10 args W fun e W' => e = .returned (.bool true) ∧ Ext W W' := by
  match args, hs with
  | ⟨[a0]⟩, _ =>
    obtain ⟨d_R, H_R'⟩ := (h 0 _ a0 rfl rfl).slice (R := intC) Try.underlying34 tiedRow
    have H_R : Hid (rowC.V W [a0] d_R) := H_R'
    obtain ⟨s_R, c_R, rfl, l_R, m_R⟩ := row_len H_R'; clear H_R'
    clear h
    by_cases small_R : (d_R).length ≤ 1048576
    rotate_left
    · go_enter Try.func10, Try.ntmps10
      go_wp2
      go_ret
      exact ⟨rfl, by repeat (first | with_reducible exact Ext.refl _ | with_reducible assumption | with_reducible refine Ext.pAlloc ?_ _ | ((with_reducible refine Ext.pSet ?_ ?_ _); rotate_left; (simp <;> omega)) | with_reducible refine Ext.pDrew ?_ | with_reducible refine Ext.pDrewN ?_ _ | with_reducible refine Ext.trans ?_ (by with_reducible assumption))⟩
    go_enter Try.func10, Try.ntmps10
    have X : Ext W W := Ext.refl W
    go_wp2_with fail
    refine (toInt64S_c _ d_R _ (rowC.vext H_R.out (X)) (by omega)).mono ?_
    rintro e w1 ⟨v_tR, rfl, Ew1, O_tR⟩
    replace O_tR := O_tR.wide (lo' := W.heap.size) (hi' := w1.heap.size) (by simp) (Nat.le_refl _)
    have Ew1c : Ext W w1 := Ew1
    have Sw1 : W.heap.size ≤ w1.heap.size := by have := Ew1.size; (try simp at this); omega
    replace X := X.trans Ew1c
    clear Ew1 Ew1c
    go_wp2_with fail
    refine (specClocksOk_c _ _ _ O_tR.view).mono ?_
    rintro e w2 ⟨rfl, Ew2⟩
    replace Ew2 := Ext.of_eq Ew2
    have Ew2c : Ext w1 w2 := Ew2
    replace O_tR := O_tR.ext Ew2c
    have Sw2 : w1.heap.size ≤ w2.heap.size := by have := Ew2.size; (try simp at this); omega
    replace X := X.trans Ew2c
    clear Ew2 Ew2c
    clear O_tR
    go_wp2_with fail
    refine (toInt64S_c _ d_R _ (rowC.vext H_R.out (X)) (by omega)).mono ?_
    rintro e w3 ⟨v_xR, rfl, Ew3, O_xR⟩
    replace O_xR := O_xR.wide (lo' := w2.heap.size) (hi' := w3.heap.size) (by simp) (Nat.le_refl _)
    have Ew3c : Ext w2 w3 := Ew3
    have Sw3 : w2.heap.size ≤ w3.heap.size := by have := Ew3.size; (try simp at this); omega
    replace X := X.trans Ew3c
    clear Ew3 Ew3c
    go_wp2_with fail
    refine (implClocksOk_c _ _ _ O_xR.view).mono ?_
    rintro e w4 ⟨rfl, Ew4⟩
    replace Ew4 := Ext.of_eq Ew4
    have Ew4c : Ext w3 w4 := Ew4
    replace O_xR := O_xR.ext Ew4c
    have Sw4 : w3.heap.size ≤ w4.heap.size := by have := Ew4.size; (try simp at this); omega
    replace X := X.trans Ew4c
    clear Ew4 Ew4c
    go_wp2_with fail
    refine (toInt64S_c _ d_R _ (rowC.vext H_R.out (X)) (by omega)).mono ?_
    rintro e w5 ⟨v_yR, rfl, Ew5, O_yR⟩
    replace O_yR := O_yR.wide (lo' := w4.heap.size) (hi' := w5.heap.size) (by simp) (Nat.le_refl _)
    have Ew5c : Ext w4 w5 := Ew5
    replace O_xR := O_xR.ext Ew5c
    have Sw5 : w4.heap.size ≤ w5.heap.size := by have := Ew5.size; (try simp at this); omega
    replace X := X.trans Ew5c
    clear Ew5 Ew5c
    go_wp2_with fail
    refine (eqInt64S_c _ _ _ _ _ O_xR.view O_yR.view).mono ?_
    rintro e w6 ⟨rfl, Ew6⟩
    have Ew6c : Ext w5 w6 := Ew6
    replace O_xR := O_xR.ext Ew6c
    replace O_yR := O_yR.ext Ew6c
    have Sw6 : w5.heap.size ≤ w6.heap.size := by have := Ew6.size; (try simp at this); omega
    replace X := X.trans Ew6c
    clear Ew6 Ew6c
    clear O_yR
    go_wp2
    go_ret
    exact ⟨rfl, X⟩

set_option maxRecDepth 100000 in
theorem exactclocksok_holds : Rows.FnExactClocksOkSaid :=
  OpenClaim.holds_of_wide 10 Try.f10 rfl rfl rfl rfl rfl rfl rfl ⟨rfl, rfl, rfl, rfl, rfl⟩ rfl rfl rfl rfl rfl (by kernel_rfl) Try.func10 (by kernel_rfl)
    (of_decide_eq_true (by kernel_rfl)) (by unfold Func.isWrapper; rw [if_neg (of_decide_eq_false (by kernel_rfl))]; exact ⟨rfl, rfl⟩)
    (fun os started H enc _ => law_lifted (C := Try.checked) (f := 10) (fn := Try.f10) (s := Rows.fnExactClocksOkSpec) (tb := 4) Try.own started (by kernel_rfl) Try.func10 Try.laidOut (of_decide_eq_true (by kernel_rfl)) rfl Try.underlying4 rfl
      (fun ds h => by match ds, h with | [_], _ => exact ⟨rfl, rfl, rfl⟩)
      (ChangeSpec.witness6 (enc := enc) (C := Try.checked) false ⟨#[], #[.slice none 0 0], []⟩ 8 (by kernel_rfl) (by kernel_rfl) (by kernel_rfl) (by kernel_rfl))
      exactclocksok_c)

end Go.Proofs.Ythgpghgcjjejhaa
