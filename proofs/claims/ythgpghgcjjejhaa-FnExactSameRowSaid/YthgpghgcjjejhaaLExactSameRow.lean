/- The law FnExactSameRow is true for every input: it returns true, and what it was given reads as before. -/
import Derived.Test.YthgpghgcjjejhaaTied
set_option linter.unusedVariables false
set_option linter.unusedSimpArgs false
namespace Go.Proofs.Ythgpghgcjjejhaa
open Go.RowKit Go.Sl

set_option maxHeartbeats 4000000 in
set_option maxRecDepth 100000 in
theorem exactsamerow_c (W : World) (args : Array Value) (hs : args.size = 2) (h : ∀ (j : Nat) t v, Try.f8.params[j]? = some t → args[j]? = some v → ArgOk Try.prog W t v) :
    Calls Try.prog 8 args W fun e W' => e = .returned (.bool true) ∧ Ext W W' := by
  match args, hs with
  | ⟨[a0, a1]⟩, _ =>
    obtain ⟨d_A, H_A'⟩ := (h 0 _ a0 rfl rfl).slice (R := intC) Try.underlying34 tiedRow
    have H_A : Hid (rowC.V W [a0] d_A) := H_A'
    obtain ⟨s_A, c_A, rfl, l_A, m_A⟩ := row_len H_A'; clear H_A'
    obtain ⟨d_B, H_B'⟩ := (h 1 _ a1 rfl rfl).slice (R := intC) Try.underlying34 tiedRow
    have H_B : Hid (rowC.V W [a1] d_B) := H_B'
    obtain ⟨s_B, c_B, rfl, l_B, m_B⟩ := row_len H_B'; clear H_B'
    clear h
    by_cases small_A : (d_A).length ≤ 1048576
    rotate_left
    · go_enter Try.func8, Try.ntmps8
      go_wp2
      go_ret
      exact ⟨rfl, by repeat (first | with_reducible exact Ext.refl _ | with_reducible assumption | with_reducible refine Ext.pAlloc ?_ _ | ((with_reducible refine Ext.pSet ?_ ?_ _); rotate_left; (simp <;> omega)) | with_reducible refine Ext.pDrew ?_ | with_reducible refine Ext.pDrewN ?_ _ | with_reducible refine Ext.trans ?_ (by with_reducible assumption))⟩
    by_cases small_B : (d_B).length ≤ 1048576
    rotate_left
    · go_enter Try.func8, Try.ntmps8
      go_wp2
      go_ret
      exact ⟨rfl, by repeat (first | with_reducible exact Ext.refl _ | with_reducible assumption | with_reducible refine Ext.pAlloc ?_ _ | ((with_reducible refine Ext.pSet ?_ ?_ _); rotate_left; (simp <;> omega)) | with_reducible refine Ext.pDrew ?_ | with_reducible refine Ext.pDrewN ?_ _ | with_reducible refine Ext.trans ?_ (by with_reducible assumption))⟩
    go_enter Try.func8, Try.ntmps8
    have X : Ext W W := Ext.refl W
    go_wp2_with fail
    refine (toInt64S_c _ d_A _ (rowC.vext H_A.out (X)) (by omega)).mono ?_
    rintro e w1 ⟨v_tA, rfl, Ew1, O_tA⟩
    replace O_tA := O_tA.wide (lo' := W.heap.size) (hi' := w1.heap.size) (by simp) (Nat.le_refl _)
    have Ew1c : Ext W w1 := Ew1
    have Sw1 : W.heap.size ≤ w1.heap.size := by have := Ew1.size; (try simp at this); omega
    replace X := X.trans Ew1c
    clear Ew1 Ew1c
    go_wp2_with fail
    refine (toInt64S_c _ d_B _ (rowC.vext H_B.out (X)) (by omega)).mono ?_
    rintro e w2 ⟨v_tB, rfl, Ew2, O_tB⟩
    replace O_tB := O_tB.wide (lo' := w1.heap.size) (hi' := w2.heap.size) (by simp) (Nat.le_refl _)
    have Ew2c : Ext w1 w2 := Ew2
    replace O_tA := O_tA.ext Ew2c
    have Sw2 : w1.heap.size ≤ w2.heap.size := by have := Ew2.size; (try simp at this); omega
    replace X := X.trans Ew2c
    clear Ew2 Ew2c
    go_wp2_with fail
    refine (specSameRow_c _ _ _ _ _ O_tA.view O_tB.view).mono ?_
    rintro e w3 ⟨rfl, Ew3⟩
    have Ew3c : Ext w2 w3 := Ew3
    replace O_tA := O_tA.ext Ew3c
    replace O_tB := O_tB.ext Ew3c
    have Sw3 : w2.heap.size ≤ w3.heap.size := by have := Ew3.size; (try simp at this); omega
    replace X := X.trans Ew3c
    clear Ew3 Ew3c
    clear O_tA
    clear O_tB
    go_wp2_with fail
    refine (toInt64S_c _ d_A _ (rowC.vext H_A.out (X)) (by omega)).mono ?_
    rintro e w4 ⟨v_xA, rfl, Ew4, O_xA⟩
    replace O_xA := O_xA.wide (lo' := w3.heap.size) (hi' := w4.heap.size) (by simp) (Nat.le_refl _)
    have Ew4c : Ext w3 w4 := Ew4
    have Sw4 : w3.heap.size ≤ w4.heap.size := by have := Ew4.size; (try simp at this); omega
    replace X := X.trans Ew4c
    clear Ew4 Ew4c
    go_wp2_with fail
    refine (toInt64S_c _ d_B _ (rowC.vext H_B.out (X)) (by omega)).mono ?_
    rintro e w5 ⟨v_xB, rfl, Ew5, O_xB⟩
    replace O_xB := O_xB.wide (lo' := w4.heap.size) (hi' := w5.heap.size) (by simp) (Nat.le_refl _)
    have Ew5c : Ext w4 w5 := Ew5
    replace O_xA := O_xA.ext Ew5c
    have Sw5 : w4.heap.size ≤ w5.heap.size := by have := Ew5.size; (try simp at this); omega
    replace X := X.trans Ew5c
    clear Ew5 Ew5c
    go_wp2_with fail
    refine (implSameRow_c _ _ _ _ _ O_xA.view O_xB.view).mono ?_
    rintro e w6 ⟨rfl, Ew6⟩
    have Ew6c : Ext w5 w6 := Ew6
    replace O_xA := O_xA.ext Ew6c
    replace O_xB := O_xB.ext Ew6c
    have Sw6 : w5.heap.size ≤ w6.heap.size := by have := Ew6.size; (try simp at this); omega
    replace X := X.trans Ew6c
    clear Ew6 Ew6c
    go_wp2_with fail
    refine (toInt64S_c _ d_A _ (rowC.vext H_A.out (X)) (by omega)).mono ?_
    rintro e w7 ⟨v_yA, rfl, Ew7, O_yA⟩
    replace O_yA := O_yA.wide (lo' := w6.heap.size) (hi' := w7.heap.size) (by simp) (Nat.le_refl _)
    have Ew7c : Ext w6 w7 := Ew7
    replace O_xA := O_xA.ext Ew7c
    replace O_xB := O_xB.ext Ew7c
    have Sw7 : w6.heap.size ≤ w7.heap.size := by have := Ew7.size; (try simp at this); omega
    replace X := X.trans Ew7c
    clear Ew7 Ew7c
    go_wp2_with fail
    refine (eqInt64S_c _ _ _ _ _ O_xA.view O_yA.view).mono ?_
    rintro e w8 ⟨rfl, Ew8⟩
    have Ew8c : Ext w7 w8 := Ew8
    replace O_xA := O_xA.ext Ew8c
    replace O_xB := O_xB.ext Ew8c
    replace O_yA := O_yA.ext Ew8c
    have Sw8 : w7.heap.size ≤ w8.heap.size := by have := Ew8.size; (try simp at this); omega
    replace X := X.trans Ew8c
    clear Ew8 Ew8c
    clear O_yA
    go_wp2_with fail
    refine (toInt64S_c _ d_B _ (rowC.vext H_B.out (X)) (by omega)).mono ?_
    rintro e w9 ⟨v_yB, rfl, Ew9, O_yB⟩
    replace O_yB := O_yB.wide (lo' := w8.heap.size) (hi' := w9.heap.size) (by simp) (Nat.le_refl _)
    have Ew9c : Ext w8 w9 := Ew9
    replace O_xA := O_xA.ext Ew9c
    replace O_xB := O_xB.ext Ew9c
    have Sw9 : w8.heap.size ≤ w9.heap.size := by have := Ew9.size; (try simp at this); omega
    replace X := X.trans Ew9c
    clear Ew9 Ew9c
    go_wp2_with fail
    refine (eqInt64S_c _ _ _ _ _ O_xB.view O_yB.view).mono ?_
    rintro e w10 ⟨rfl, Ew10⟩
    have Ew10c : Ext w9 w10 := Ew10
    replace O_xA := O_xA.ext Ew10c
    replace O_xB := O_xB.ext Ew10c
    replace O_yB := O_yB.ext Ew10c
    have Sw10 : w9.heap.size ≤ w10.heap.size := by have := Ew10.size; (try simp at this); omega
    replace X := X.trans Ew10c
    clear Ew10 Ew10c
    clear O_yB
    go_wp2
    go_ret
    exact ⟨rfl, X⟩

set_option maxRecDepth 100000 in
theorem exactsamerow_holds : Rows.FnExactSameRowSaid :=
  OpenClaim.holds_of_wide 8 Try.f8 rfl rfl rfl rfl rfl rfl rfl ⟨rfl, rfl, rfl, rfl, rfl⟩ rfl rfl rfl rfl rfl (by kernel_rfl) Try.func8 (by kernel_rfl)
    (of_decide_eq_true (by kernel_rfl)) (by unfold Func.isWrapper; rw [if_neg (of_decide_eq_false (by kernel_rfl))]; exact ⟨rfl, rfl⟩)
    (fun os started H enc _ => law_lifted (C := Try.checked) (f := 8) (fn := Try.f8) (s := Rows.fnExactSameRowSpec) (tb := 4) Try.own started (by kernel_rfl) Try.func8 Try.laidOut (of_decide_eq_true (by kernel_rfl)) rfl Try.underlying4 rfl
      (fun ds h => by match ds, h with | [_, _], _ => exact ⟨rfl, rfl, rfl⟩)
      (ChangeSpec.witness6 (enc := enc) (C := Try.checked) false ⟨#[], #[.slice none 0 0, .slice none 0 0], []⟩ 8 (by kernel_rfl) (by kernel_rfl) (by kernel_rfl) (by kernel_rfl))
      exactsamerow_c)

end Go.Proofs.Ythgpghgcjjejhaa
