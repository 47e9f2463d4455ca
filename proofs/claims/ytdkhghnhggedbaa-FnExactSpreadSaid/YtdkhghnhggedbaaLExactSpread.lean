/- The law FnExactSpread is true for every input: it returns true, and what it was given reads as before. -/
import Derived.Test.YtdkhghnhggedbaaTied
import Derived.Test.YtdkhghnhggedbaaDice2
set_option linter.unusedVariables false
set_option linter.unusedSimpArgs false
namespace Go.Proofs.Ytdkhghnhggedbaa
open Go.RowKit Go.Sl

set_option maxHeartbeats 4000000 in
set_option maxRecDepth 100000 in
theorem exactspread_c (W : World) (args : Array Value) (hs : args.size = 3) (h : ∀ (j : Nat) t v, Try.f3.params[j]? = some t → args[j]? = some v → ArgOk Try.prog W t v) :
    Calls Try.prog 3 args W fun e W' => e = .returned (.bool true) ∧ Ext W W' := by
  match args, hs with
  | ⟨[a0, a1, a2]⟩, _ =>
    obtain ⟨d_D, rfl⟩ := arg_dice (h 0 _ a0 rfl rfl)
    obtain ⟨d_M, rfl⟩ := (h 1 _ a1 rfl rfl).int Try.underlying2
    obtain ⟨d_N, rfl⟩ := (h 2 _ a2 rfl rfl).int Try.underlying2
    clear h
    have bnd := spread_len d_D d_M d_N
    go_enter Try.func3, Try.ntmps3
    have X : Ext W W := Ext.refl W
    go_wp2_with fail
    refine (toDice_c _ _).mono ?_
    rintro e w1 ⟨rfl, Ew1⟩
    have Ew1c : Ext W w1 := Ext.trans (Ext.pAlloc (Ext.refl _) _) Ew1
    have B_AD_0 : w1.cell? ⟨(W.heap.size), 0, none⟩ = some (.int .i64 (d_D)) := cell_ext (by simp [go_sem]) Ew1
    have Sw1 : W.heap.size + 1 ≤ w1.heap.size := by have := Ew1.size; (try simp at this); omega
    replace X := X.trans Ew1c
    clear Ew1 Ew1c
    go_wp2_with fail
    refine (specSpread_c _ _ _ _ ).mono ?_
    rintro e w2 ⟨v_w0r1, rfl, Ew2, O_w0r1⟩
    replace O_w0r1 := O_w0r1.wide (lo' := w1.heap.size) (hi' := w2.heap.size) (by simp) (Nat.le_refl _)
    have Ew2c : Ext w1 w2 := Ew2
    replace B_AD_0 := cell_ext B_AD_0 Ew2c
    have Sw2 : w1.heap.size ≤ w2.heap.size := by have := Ew2.size; (try simp at this); omega
    replace X := X.trans Ew2c
    clear Ew2 Ew2c
    have N_AD_0 : (W.heap.size) < w2.heap.size := by omega
    go_wp2_with fail
    refine (toDice_c _ _).mono ?_
    rintro e w3 ⟨rfl, Ew3⟩
    have Ew3c : Ext w2 w3 := Ext.trans (Ext.pAlloc (Ext.refl _) _) Ew3
    replace O_w0r1 := O_w0r1.ext Ew3c
    replace B_AD_0 := cell_ext B_AD_0 Ew3c
    have B_w0r0_0 : w3.cell? ⟨(w2.heap.size), 0, none⟩ = some (.int .i64 ((spread d_D d_M d_N).1)) := cell_ext (by simp [go_sem]) Ew3
    have Sw3 : w2.heap.size + 1 ≤ w3.heap.size := by have := Ew3.size; (try simp at this); omega
    replace X := X.trans Ew3c
    clear Ew3 Ew3c
    go_wp2_with fail
    refine (implSpread_c _ _ _ _ ).mono ?_
    rintro e w4 ⟨v_g0r1, rfl, Ew4, O_g0r1⟩
    replace O_g0r1 := O_g0r1.wide (lo' := w3.heap.size) (hi' := w4.heap.size) (by simp) (Nat.le_refl _)
    have Ew4c : Ext w3 w4 := Ew4
    replace O_w0r1 := O_w0r1.ext Ew4c
    replace B_AD_0 := cell_ext B_AD_0 Ew4c
    replace B_w0r0_0 := cell_ext B_w0r0_0 Ew4c
    have Sw4 : w3.heap.size ≤ w4.heap.size := by have := Ew4.size; (try simp at this); omega
    replace X := X.trans Ew4c
    clear Ew4 Ew4c
    have N_AD_0 : (W.heap.size) < w4.heap.size := by omega
    have N_w0r0_0 : (w2.heap.size) < w4.heap.size := by omega
    go_wp2_with fail
    refine (eqDice_c _ _ _).mono ?_
    rintro e w5 ⟨rfl, Ew5⟩
    have Ew5c : Ext w4 w5 := Ext.trans (Ext.pAlloc (Ext.refl _) _) Ew5
    replace O_w0r1 := O_w0r1.ext Ew5c
    replace O_g0r1 := O_g0r1.ext Ew5c
    replace B_AD_0 := cell_ext B_AD_0 Ew5c
    replace B_w0r0_0 := cell_ext B_w0r0_0 Ew5c
    have B_g0r0_0 : w5.cell? ⟨(w4.heap.size), 0, none⟩ = some (.int .i64 ((spread d_D d_M d_N).1)) := cell_ext (by simp [go_sem]) Ew5
    have Sw5 : w4.heap.size + 1 ≤ w5.heap.size := by have := Ew5.size; (try simp at this); omega
    replace X := X.trans Ew5c
    clear Ew5 Ew5c
    go_wp2_with fail
    refine (eqInt64S_c _ _ _ _ _ O_g0r1.view O_w0r1.view).mono ?_
    rintro e w6 ⟨rfl, Ew6⟩
    have Ew6c : Ext w5 w6 := Ew6
    replace O_w0r1 := O_w0r1.ext Ew6c
    replace O_g0r1 := O_g0r1.ext Ew6c
    replace B_AD_0 := cell_ext B_AD_0 Ew6c
    replace B_w0r0_0 := cell_ext B_w0r0_0 Ew6c
    replace B_g0r0_0 := cell_ext B_g0r0_0 Ew6c
    have Sw6 : w5.heap.size ≤ w6.heap.size := by have := Ew6.size; (try simp at this); omega
    replace X := X.trans Ew6c
    clear Ew6 Ew6c
    go_wp2_with fail
    refine (markInt64S_c _ _ _ _ _ _ O_g0r1 (by omega) (by omega)).mono ?_
    rintro e w7 ⟨rfl, Cw7, Zw7, O_g0r1'⟩
    replace O_w0r1 := O_w0r1.chg Cw7 (by omega)
    clear O_g0r1
    have O_g0r1 := O_g0r1'
    clear O_g0r1'
    replace B_AD_0 := cell_chg B_AD_0 Cw7 (by omega)
    replace B_w0r0_0 := cell_chg B_w0r0_0 Cw7 (by omega)
    replace B_g0r0_0 := cell_chg B_g0r0_0 Cw7 (by omega)
    have Sw7 : w6.heap.size ≤ w7.heap.size := Cw7.size
    replace X := Chg.ext X Cw7 (by omega)
    clear Cw7 Zw7
    go_wp2_with fail
    refine (heldInt64S_c _ ((spread d_D d_M d_N).2) _ _ O_g0r1.view (by omega) (by omega)).mono ?_
    rintro e w8 ⟨rfl, Ew8⟩
    have Ew8c : Ext w7 w8 := Ew8
    replace O_w0r1 := O_w0r1.ext Ew8c
    replace O_g0r1 := O_g0r1.ext Ew8c
    replace B_AD_0 := cell_ext B_AD_0 Ew8c
    replace B_w0r0_0 := cell_ext B_w0r0_0 Ew8c
    replace B_g0r0_0 := cell_ext B_g0r0_0 Ew8c
    have Sw8 : w7.heap.size ≤ w8.heap.size := by have := Ew8.size; (try simp at this); omega
    replace X := X.trans Ew8c
    clear Ew8 Ew8c
    go_wp2_with fail
    refine (toDice_c _ _).mono ?_
    rintro e w9 ⟨rfl, Ew9⟩
    have Ew9c : Ext w8 w9 := Ew9
    replace O_w0r1 := O_w0r1.ext Ew9c
    replace O_g0r1 := O_g0r1.ext Ew9c
    replace B_AD_0 := cell_ext B_AD_0 Ew9c
    replace B_w0r0_0 := cell_ext B_w0r0_0 Ew9c
    replace B_g0r0_0 := cell_ext B_g0r0_0 Ew9c
    have Sw9 : w8.heap.size ≤ w9.heap.size := by have := Ew9.size; (try simp at this); omega
    replace X := X.trans Ew9c
    clear Ew9 Ew9c
    go_wp2_with fail
    refine (implSpread_c _ _ _ _ ).mono ?_
    rintro e w10 ⟨v_h0r1, rfl, Ew10, O_h0r1⟩
    replace O_h0r1 := O_h0r1.wide (lo' := w9.heap.size) (hi' := w10.heap.size) (by simp) (Nat.le_refl _)
    have Ew10c : Ext w9 w10 := Ew10
    replace O_w0r1 := O_w0r1.ext Ew10c
    replace O_g0r1 := O_g0r1.ext Ew10c
    replace B_AD_0 := cell_ext B_AD_0 Ew10c
    replace B_w0r0_0 := cell_ext B_w0r0_0 Ew10c
    replace B_g0r0_0 := cell_ext B_g0r0_0 Ew10c
    have Sw10 : w9.heap.size ≤ w10.heap.size := by have := Ew10.size; (try simp at this); omega
    replace X := X.trans Ew10c
    clear Ew10 Ew10c
    have N_AD_0 : (W.heap.size) < w10.heap.size := by omega
    have N_w0r0_0 : (w2.heap.size) < w10.heap.size := by omega
    have N_g0r0_0 : (w4.heap.size) < w10.heap.size := by omega
    go_wp2_with fail
    refine (eqDice_c _ _ _).mono ?_
    rintro e w11 ⟨rfl, Ew11⟩
    have Ew11c : Ext w10 w11 := Ext.trans (Ext.pAlloc (Ext.refl _) _) Ew11
    replace O_w0r1 := O_w0r1.ext Ew11c
    replace O_g0r1 := O_g0r1.ext Ew11c
    replace O_h0r1 := O_h0r1.ext Ew11c
    replace B_AD_0 := cell_ext B_AD_0 Ew11c
    replace B_w0r0_0 := cell_ext B_w0r0_0 Ew11c
    replace B_g0r0_0 := cell_ext B_g0r0_0 Ew11c
    have B_h0r0_0 : w11.cell? ⟨(w10.heap.size), 0, none⟩ = some (.int .i64 ((spread d_D d_M d_N).1)) := cell_ext (by simp [go_sem]) Ew11
    have Sw11 : w10.heap.size + 1 ≤ w11.heap.size := by have := Ew11.size; (try simp at this); omega
    replace X := X.trans Ew11c
    clear Ew11 Ew11c
    go_wp2_with fail
    refine (eqInt64S_c _ _ _ _ _ O_h0r1.view O_w0r1.view).mono ?_
    rintro e w12 ⟨rfl, Ew12⟩
    have Ew12c : Ext w11 w12 := Ew12
    replace O_w0r1 := O_w0r1.ext Ew12c
    replace O_g0r1 := O_g0r1.ext Ew12c
    replace O_h0r1 := O_h0r1.ext Ew12c
    replace B_AD_0 := cell_ext B_AD_0 Ew12c
    replace B_w0r0_0 := cell_ext B_w0r0_0 Ew12c
    replace B_g0r0_0 := cell_ext B_g0r0_0 Ew12c
    replace B_h0r0_0 := cell_ext B_h0r0_0 Ew12c
    have Sw12 : w11.heap.size ≤ w12.heap.size := by have := Ew12.size; (try simp at this); omega
    replace X := X.trans Ew12c
    clear Ew12 Ew12c
    go_wp2_with fail
    refine (heldInt64S_c _ ((spread d_D d_M d_N).2) _ _ O_g0r1.view (by omega) (by omega)).mono ?_
    rintro e w13 ⟨rfl, Ew13⟩
    have Ew13c : Ext w12 w13 := Ew13
    replace O_w0r1 := O_w0r1.ext Ew13c
    replace O_g0r1 := O_g0r1.ext Ew13c
    replace O_h0r1 := O_h0r1.ext Ew13c
    replace B_AD_0 := cell_ext B_AD_0 Ew13c
    replace B_w0r0_0 := cell_ext B_w0r0_0 Ew13c
    replace B_g0r0_0 := cell_ext B_g0r0_0 Ew13c
    replace B_h0r0_0 := cell_ext B_h0r0_0 Ew13c
    have Sw13 : w12.heap.size ≤ w13.heap.size := by have := Ew13.size; (try simp at this); omega
    replace X := X.trans Ew13c
    clear Ew13 Ew13c
    go_wp2
    go_ret
    exact ⟨rfl, X⟩

set_option maxRecDepth 100000 in
theorem exactspread_holds : Rows.FnExactSpreadSaid :=
  OpenClaim.holds_of_wide 3 Try.f3 rfl rfl rfl rfl rfl rfl rfl ⟨rfl, rfl, rfl, rfl, rfl⟩ rfl rfl rfl rfl rfl (by kernel_rfl) Try.func3 (by kernel_rfl)
    (of_decide_eq_true (by kernel_rfl)) (by unfold Func.isWrapper; rw [if_neg (of_decide_eq_false (by kernel_rfl))]; exact ⟨rfl, rfl⟩)
    (fun os started H enc _ => law_lifted (C := Try.checked) (f := 3) (fn := Try.f3) (s := Rows.fnExactSpreadSpec) (tb := 4) Try.own started (by kernel_rfl) Try.func3 Try.laidOut (of_decide_eq_true (by kernel_rfl)) rfl Try.underlying4 rfl
      (fun ds h => by match ds, h with | [_, _, _], _ => exact ⟨rfl, rfl, rfl⟩)
      (ChangeSpec.witness6 (enc := enc) (C := Try.checked) false ⟨#[], #[.agg #[.int .i64 0], .int .i64 0, .int .i64 0], []⟩ 8 (by kernel_rfl) (by kernel_rfl) (by kernel_rfl) (by kernel_rfl))
      exactspread_c)

end Go.Proofs.Ytdkhghnhggedbaa
