/- The law FnExactShuffled is true for every input: it returns true, and what it was given reads as before. -/
import Derived.Test.YtdkhghnhggedbaaTied
import Derived.Test.YtdkhghnhggedbaaShuf
set_option linter.unusedVariables false
set_option linter.unusedSimpArgs false
namespace Go.Proofs.Ytdkhghnhggedbaa
open Go.RowKit Go.Sl

set_option maxHeartbeats 4000000 in
set_option maxRecDepth 100000 in
theorem exactshuffled_c (W : World) (args : Array Value) (hs : args.size = 2) (h : ∀ (j : Nat) t v, Try.f5.params[j]? = some t → args[j]? = some v → ArgOk Try.prog W t v) :
    Calls Try.prog 5 args W fun e W' => e = .returned (.bool true) ∧ Ext W W' := by
  match args, hs with
  | ⟨[a0, a1]⟩, _ =>
    obtain ⟨d_D, rfl⟩ := arg_dice (h 0 _ a0 rfl rfl)
    obtain ⟨d_List, H_List'⟩ := (h 1 _ a1 rfl rfl).slice (R := intC) Try.underlying25 tiedRow
    have H_List : Hid (rowC.V W [a1] d_List) := H_List'
    obtain ⟨s_List, c_List, rfl, l_List, m_List⟩ := row_len H_List'; clear H_List'
    clear h
    have bnd := shuffled_len d_D d_List
    by_cases small_List : (d_List).length ≤ 1048576
    rotate_left
    · go_enter Try.func5, Try.ntmps5
      go_wp2
      go_ret
      exact ⟨rfl, by repeat (first | with_reducible exact Ext.refl _ | with_reducible assumption | with_reducible refine Ext.pAlloc ?_ _ | ((with_reducible refine Ext.pSet ?_ ?_ _); rotate_left; (simp <;> omega)) | with_reducible refine Ext.pDrew ?_ | with_reducible refine Ext.pDrewN ?_ _ | with_reducible refine Ext.trans ?_ (by with_reducible assumption))⟩
    go_enter Try.func5, Try.ntmps5
    have X : Ext W W := Ext.refl W
    go_wp2_with fail
    refine (toDice_c _ _).mono ?_
    rintro e w1 ⟨rfl, Ew1⟩
    have Ew1c : Ext W w1 := Ext.trans (Ext.pAlloc (Ext.refl _) _) Ew1
    have B_AD_0 : w1.cell? ⟨(W.heap.size), 0, none⟩ = some (.int .i64 (d_D)) := cell_ext (by simp [go_sem]) Ew1
    have Sw1 : W.heap.size + 1 ≤ w1.heap.size := by have := Ew1.size; (try simp at this); omega
    replace X := X.trans Ew1c
    clear Ew1 Ew1c
    go_wp2_with fail
    refine (toInt64S_c _ d_List _ (rowC.vext H_List.out (X)) (by first | omega | exact sz_List)).mono ?_
    rintro e w2 ⟨v_tList, rfl, Ew2, O_tList⟩
    replace O_tList := O_tList.wide (lo' := w1.heap.size) (hi' := w2.heap.size) (by simp) (Nat.le_refl _)
    have Ew2c : Ext w1 w2 := Ew2
    replace B_AD_0 := cell_ext B_AD_0 Ew2c
    have Sw2 : w1.heap.size ≤ w2.heap.size := by have := Ew2.size; (try simp at this); omega
    replace X := X.trans Ew2c
    clear Ew2 Ew2c
    go_wp2_with fail
    refine (specShuffled_c _ _ _ _ O_tList.view).mono ?_
    rintro e w3 ⟨v_w0r1, rfl, Ew3, O_w0r1⟩
    replace O_w0r1 := O_w0r1.wide (lo' := w2.heap.size) (hi' := w3.heap.size) (by simp) (Nat.le_refl _)
    have Ew3c : Ext w2 w3 := Ew3
    replace O_tList := O_tList.ext Ew3c
    replace B_AD_0 := cell_ext B_AD_0 Ew3c
    have Sw3 : w2.heap.size ≤ w3.heap.size := by have := Ew3.size; (try simp at this); omega
    replace X := X.trans Ew3c
    clear Ew3 Ew3c
    clear O_tList
    have N_AD_0 : (W.heap.size) < w3.heap.size := by omega
    go_wp2_with fail
    refine (toInt64S_c _ d_List _ (rowC.vext H_List.out (Ext.pAlloc (X) _)) (by first | omega | exact sz_List)).mono ?_
    rintro e w4 ⟨v_xList, rfl, Ew4, O_xList⟩
    replace O_xList := O_xList.wide (lo' := w3.heap.size + 1) (hi' := w4.heap.size) (by simp) (Nat.le_refl _)
    have Ew4c : Ext w3 w4 := Ext.trans (Ext.pAlloc (Ext.refl _) _) Ew4
    replace O_w0r1 := O_w0r1.ext Ew4c
    replace B_AD_0 := cell_ext B_AD_0 Ew4c
    have B_w0r0_0 : w4.cell? ⟨(w3.heap.size), 0, none⟩ = some (.int .i64 ((shuffled d_D d_List).1)) := cell_ext (by simp [go_sem]) Ew4
    have Sw4 : w3.heap.size + 1 ≤ w4.heap.size := by have := Ew4.size; (try simp at this); omega
    replace X := X.trans Ew4c
    clear Ew4 Ew4c
    go_wp2_with fail
    refine (toDice_c _ _).mono ?_
    rintro e w5 ⟨rfl, Ew5⟩
    have Ew5c : Ext w4 w5 := Ew5
    replace O_w0r1 := O_w0r1.ext Ew5c
    replace O_xList := O_xList.ext Ew5c
    replace B_AD_0 := cell_ext B_AD_0 Ew5c
    replace B_w0r0_0 := cell_ext B_w0r0_0 Ew5c
    have Sw5 : w4.heap.size ≤ w5.heap.size := by have := Ew5.size; (try simp at this); omega
    replace X := X.trans Ew5c
    clear Ew5 Ew5c
    go_wp2_with fail
    refine (implShuffled_c _ _ _ _ O_xList.view).mono ?_
    rintro e w6 ⟨v_g0r1, rfl, Ew6, O_g0r1⟩
    replace O_g0r1 := O_g0r1.wide (lo' := w5.heap.size) (hi' := w6.heap.size) (by simp) (Nat.le_refl _)
    have Ew6c : Ext w5 w6 := Ew6
    replace O_w0r1 := O_w0r1.ext Ew6c
    replace O_xList := O_xList.ext Ew6c
    replace B_AD_0 := cell_ext B_AD_0 Ew6c
    replace B_w0r0_0 := cell_ext B_w0r0_0 Ew6c
    have Sw6 : w5.heap.size ≤ w6.heap.size := by have := Ew6.size; (try simp at this); omega
    replace X := X.trans Ew6c
    clear Ew6 Ew6c
    have N_AD_0 : (W.heap.size) < w6.heap.size := by omega
    have N_w0r0_0 : (w3.heap.size) < w6.heap.size := by omega
    go_wp2_with fail
    refine (eqDice_c _ _ _).mono ?_
    rintro e w7 ⟨rfl, Ew7⟩
    have Ew7c : Ext w6 w7 := Ext.trans (Ext.pAlloc (Ext.refl _) _) Ew7
    replace O_w0r1 := O_w0r1.ext Ew7c
    replace O_xList := O_xList.ext Ew7c
    replace O_g0r1 := O_g0r1.ext Ew7c
    replace B_AD_0 := cell_ext B_AD_0 Ew7c
    replace B_w0r0_0 := cell_ext B_w0r0_0 Ew7c
    have B_g0r0_0 : w7.cell? ⟨(w6.heap.size), 0, none⟩ = some (.int .i64 ((shuffled d_D d_List).1)) := cell_ext (by simp [go_sem]) Ew7
    have Sw7 : w6.heap.size + 1 ≤ w7.heap.size := by have := Ew7.size; (try simp at this); omega
    replace X := X.trans Ew7c
    clear Ew7 Ew7c
    go_wp2_with fail
    refine (eqInt64S_c _ _ _ _ _ O_g0r1.view O_w0r1.view).mono ?_
    rintro e w8 ⟨rfl, Ew8⟩
    have Ew8c : Ext w7 w8 := Ew8
    replace O_w0r1 := O_w0r1.ext Ew8c
    replace O_xList := O_xList.ext Ew8c
    replace O_g0r1 := O_g0r1.ext Ew8c
    replace B_AD_0 := cell_ext B_AD_0 Ew8c
    replace B_w0r0_0 := cell_ext B_w0r0_0 Ew8c
    replace B_g0r0_0 := cell_ext B_g0r0_0 Ew8c
    have Sw8 : w7.heap.size ≤ w8.heap.size := by have := Ew8.size; (try simp at this); omega
    replace X := X.trans Ew8c
    clear Ew8 Ew8c
    go_wp2_with fail
    refine (toInt64S_c _ d_List _ (rowC.vext H_List.out (X)) (by first | omega | exact sz_List)).mono ?_
    rintro e w9 ⟨v_yList, rfl, Ew9, O_yList⟩
    replace O_yList := O_yList.wide (lo' := w8.heap.size) (hi' := w9.heap.size) (by simp) (Nat.le_refl _)
    have Ew9c : Ext w8 w9 := Ew9
    replace O_w0r1 := O_w0r1.ext Ew9c
    replace O_xList := O_xList.ext Ew9c
    replace O_g0r1 := O_g0r1.ext Ew9c
    replace B_AD_0 := cell_ext B_AD_0 Ew9c
    replace B_w0r0_0 := cell_ext B_w0r0_0 Ew9c
    replace B_g0r0_0 := cell_ext B_g0r0_0 Ew9c
    have Sw9 : w8.heap.size ≤ w9.heap.size := by have := Ew9.size; (try simp at this); omega
    replace X := X.trans Ew9c
    clear Ew9 Ew9c
    go_wp2_with fail
    refine (eqInt64S_c _ _ _ _ _ O_xList.view O_yList.view).mono ?_
    rintro e w10 ⟨rfl, Ew10⟩
    have Ew10c : Ext w9 w10 := Ew10
    replace O_w0r1 := O_w0r1.ext Ew10c
    replace O_xList := O_xList.ext Ew10c
    replace O_g0r1 := O_g0r1.ext Ew10c
    replace O_yList := O_yList.ext Ew10c
    replace B_AD_0 := cell_ext B_AD_0 Ew10c
    replace B_w0r0_0 := cell_ext B_w0r0_0 Ew10c
    replace B_g0r0_0 := cell_ext B_g0r0_0 Ew10c
    have Sw10 : w9.heap.size ≤ w10.heap.size := by have := Ew10.size; (try simp at this); omega
    replace X := X.trans Ew10c
    clear Ew10 Ew10c
    clear O_yList
    go_wp2_with fail
    refine (markInt64S_c _ _ _ _ _ _ O_xList (by omega) (by omega)).mono ?_
    rintro e w11 ⟨rfl, Cw11, Zw11, O_xList'⟩
    replace O_w0r1 := O_w0r1.chg Cw11 (by omega)
    replace O_g0r1 := O_g0r1.chg Cw11 (by omega)
    clear O_xList
    have O_xList := O_xList'
    clear O_xList'
    replace B_AD_0 := cell_chg B_AD_0 Cw11 (by omega)
    replace B_w0r0_0 := cell_chg B_w0r0_0 Cw11 (by omega)
    replace B_g0r0_0 := cell_chg B_g0r0_0 Cw11 (by omega)
    have Sw11 : w10.heap.size ≤ w11.heap.size := Cw11.size
    replace X := Chg.ext X Cw11 (by omega)
    clear Cw11 Zw11
    clear O_xList
    go_wp2_with fail
    refine (eqDice_c _ _ _).mono ?_
    rintro e w12 ⟨rfl, Ew12⟩
    have Ew12c : Ext w11 w12 := Ew12
    replace O_w0r1 := O_w0r1.ext Ew12c
    replace O_g0r1 := O_g0r1.ext Ew12c
    replace B_AD_0 := cell_ext B_AD_0 Ew12c
    replace B_w0r0_0 := cell_ext B_w0r0_0 Ew12c
    replace B_g0r0_0 := cell_ext B_g0r0_0 Ew12c
    have Sw12 : w11.heap.size ≤ w12.heap.size := by have := Ew12.size; (try simp at this); omega
    replace X := X.trans Ew12c
    clear Ew12 Ew12c
    go_wp2_with fail
    refine (eqInt64S_c _ _ _ _ _ O_g0r1.view O_w0r1.view).mono ?_
    rintro e w13 ⟨rfl, Ew13⟩
    have Ew13c : Ext w12 w13 := Ew13
    replace O_w0r1 := O_w0r1.ext Ew13c
    replace O_g0r1 := O_g0r1.ext Ew13c
    replace B_AD_0 := cell_ext B_AD_0 Ew13c
    replace B_w0r0_0 := cell_ext B_w0r0_0 Ew13c
    replace B_g0r0_0 := cell_ext B_g0r0_0 Ew13c
    have Sw13 : w12.heap.size ≤ w13.heap.size := by have := Ew13.size; (try simp at this); omega
    replace X := X.trans Ew13c
    clear Ew13 Ew13c
    go_wp2_with fail
    refine (markInt64S_c _ _ _ _ _ _ O_g0r1 (by omega) (by omega)).mono ?_
    rintro e w14 ⟨rfl, Cw14, Zw14, O_g0r1'⟩
    replace O_w0r1 := O_w0r1.chg Cw14 (by omega)
    clear O_g0r1
    have O_g0r1 := O_g0r1'
    clear O_g0r1'
    replace B_AD_0 := cell_chg B_AD_0 Cw14 (by omega)
    replace B_w0r0_0 := cell_chg B_w0r0_0 Cw14 (by omega)
    replace B_g0r0_0 := cell_chg B_g0r0_0 Cw14 (by omega)
    have Sw14 : w13.heap.size ≤ w14.heap.size := Cw14.size
    replace X := Chg.ext X Cw14 (by omega)
    clear Cw14 Zw14
    go_wp2_with fail
    refine (heldInt64S_c _ ((shuffled d_D d_List).2) _ _ O_g0r1.view (by omega) (by omega)).mono ?_
    rintro e w15 ⟨rfl, Ew15⟩
    have Ew15c : Ext w14 w15 := Ew15
    replace O_w0r1 := O_w0r1.ext Ew15c
    replace O_g0r1 := O_g0r1.ext Ew15c
    replace B_AD_0 := cell_ext B_AD_0 Ew15c
    replace B_w0r0_0 := cell_ext B_w0r0_0 Ew15c
    replace B_g0r0_0 := cell_ext B_g0r0_0 Ew15c
    have Sw15 : w14.heap.size ≤ w15.heap.size := by have := Ew15.size; (try simp at this); omega
    replace X := X.trans Ew15c
    clear Ew15 Ew15c
    go_wp2_with fail
    refine (toDice_c _ _).mono ?_
    rintro e w16 ⟨rfl, Ew16⟩
    have Ew16c : Ext w15 w16 := Ew16
    replace O_w0r1 := O_w0r1.ext Ew16c
    replace O_g0r1 := O_g0r1.ext Ew16c
    replace B_AD_0 := cell_ext B_AD_0 Ew16c
    replace B_w0r0_0 := cell_ext B_w0r0_0 Ew16c
    replace B_g0r0_0 := cell_ext B_g0r0_0 Ew16c
    have Sw16 : w15.heap.size ≤ w16.heap.size := by have := Ew16.size; (try simp at this); omega
    replace X := X.trans Ew16c
    clear Ew16 Ew16c
    go_wp2_with fail
    refine (toInt64S_c _ d_List _ (rowC.vext H_List.out (X)) (by first | omega | exact sz_List)).mono ?_
    rintro e w17 ⟨v_uList, rfl, Ew17, O_uList⟩
    replace O_uList := O_uList.wide (lo' := w16.heap.size) (hi' := w17.heap.size) (by simp) (Nat.le_refl _)
    have Ew17c : Ext w16 w17 := Ew17
    replace O_w0r1 := O_w0r1.ext Ew17c
    replace O_g0r1 := O_g0r1.ext Ew17c
    replace B_AD_0 := cell_ext B_AD_0 Ew17c
    replace B_w0r0_0 := cell_ext B_w0r0_0 Ew17c
    replace B_g0r0_0 := cell_ext B_g0r0_0 Ew17c
    have Sw17 : w16.heap.size ≤ w17.heap.size := by have := Ew17.size; (try simp at this); omega
    replace X := X.trans Ew17c
    clear Ew17 Ew17c
    go_wp2_with fail
    refine (implShuffled_c _ _ _ _ O_uList.view).mono ?_
    rintro e w18 ⟨v_h0r1, rfl, Ew18, O_h0r1⟩
    replace O_h0r1 := O_h0r1.wide (lo' := w17.heap.size) (hi' := w18.heap.size) (by simp) (Nat.le_refl _)
    have Ew18c : Ext w17 w18 := Ew18
    replace O_w0r1 := O_w0r1.ext Ew18c
    replace O_g0r1 := O_g0r1.ext Ew18c
    replace O_uList := O_uList.ext Ew18c
    replace B_AD_0 := cell_ext B_AD_0 Ew18c
    replace B_w0r0_0 := cell_ext B_w0r0_0 Ew18c
    replace B_g0r0_0 := cell_ext B_g0r0_0 Ew18c
    have Sw18 : w17.heap.size ≤ w18.heap.size := by have := Ew18.size; (try simp at this); omega
    replace X := X.trans Ew18c
    clear Ew18 Ew18c
    clear O_uList
    have N_AD_0 : (W.heap.size) < w18.heap.size := by omega
    have N_w0r0_0 : (w3.heap.size) < w18.heap.size := by omega
    have N_g0r0_0 : (w6.heap.size) < w18.heap.size := by omega
    go_wp2_with fail
    refine (eqDice_c _ _ _).mono ?_
    rintro e w19 ⟨rfl, Ew19⟩
    have Ew19c : Ext w18 w19 := Ext.trans (Ext.pAlloc (Ext.refl _) _) Ew19
    replace O_w0r1 := O_w0r1.ext Ew19c
    replace O_g0r1 := O_g0r1.ext Ew19c
    replace O_h0r1 := O_h0r1.ext Ew19c
    replace B_AD_0 := cell_ext B_AD_0 Ew19c
    replace B_w0r0_0 := cell_ext B_w0r0_0 Ew19c
    replace B_g0r0_0 := cell_ext B_g0r0_0 Ew19c
    have B_h0r0_0 : w19.cell? ⟨(w18.heap.size), 0, none⟩ = some (.int .i64 ((shuffled d_D d_List).1)) := cell_ext (by simp [go_sem]) Ew19
    have Sw19 : w18.heap.size + 1 ≤ w19.heap.size := by have := Ew19.size; (try simp at this); omega
    replace X := X.trans Ew19c
    clear Ew19 Ew19c
    go_wp2_with fail
    refine (eqInt64S_c _ _ _ _ _ O_h0r1.view O_w0r1.view).mono ?_
    rintro e w20 ⟨rfl, Ew20⟩
    have Ew20c : Ext w19 w20 := Ew20
    replace O_w0r1 := O_w0r1.ext Ew20c
    replace O_g0r1 := O_g0r1.ext Ew20c
    replace O_h0r1 := O_h0r1.ext Ew20c
    replace B_AD_0 := cell_ext B_AD_0 Ew20c
    replace B_w0r0_0 := cell_ext B_w0r0_0 Ew20c
    replace B_g0r0_0 := cell_ext B_g0r0_0 Ew20c
    replace B_h0r0_0 := cell_ext B_h0r0_0 Ew20c
    have Sw20 : w19.heap.size ≤ w20.heap.size := by have := Ew20.size; (try simp at this); omega
    replace X := X.trans Ew20c
    clear Ew20 Ew20c
    go_wp2_with fail
    refine (heldInt64S_c _ ((shuffled d_D d_List).2) _ _ O_g0r1.view (by omega) (by omega)).mono ?_
    rintro e w21 ⟨rfl, Ew21⟩
    have Ew21c : Ext w20 w21 := Ew21
    replace O_w0r1 := O_w0r1.ext Ew21c
    replace O_g0r1 := O_g0r1.ext Ew21c
    replace O_h0r1 := O_h0r1.ext Ew21c
    replace B_AD_0 := cell_ext B_AD_0 Ew21c
    replace B_w0r0_0 := cell_ext B_w0r0_0 Ew21c
    replace B_g0r0_0 := cell_ext B_g0r0_0 Ew21c
    replace B_h0r0_0 := cell_ext B_h0r0_0 Ew21c
    have Sw21 : w20.heap.size ≤ w21.heap.size := by have := Ew21.size; (try simp at this); omega
    replace X := X.trans Ew21c
    clear Ew21 Ew21c
    go_wp2
    go_ret
    exact ⟨rfl, X⟩

set_option maxRecDepth 100000 in
theorem exactshuffled_holds : Rows.FnExactShuffledSaid :=
  OpenClaim.holds_of_wide 5 Try.f5 rfl rfl rfl rfl rfl rfl rfl ⟨rfl, rfl, rfl, rfl, rfl⟩ rfl rfl rfl rfl rfl (by kernel_rfl) Try.func5 (by kernel_rfl)
    (of_decide_eq_true (by kernel_rfl)) (by unfold Func.isWrapper; rw [if_neg (of_decide_eq_false (by kernel_rfl))]; exact ⟨rfl, rfl⟩)
    (fun os started H enc _ => law_lifted (C := Try.checked) (f := 5) (fn := Try.f5) (s := Rows.fnExactShuffledSpec) (tb := 4) Try.own started (by kernel_rfl) Try.func5 Try.laidOut (of_decide_eq_true (by kernel_rfl)) rfl Try.underlying4 rfl
      (fun ds h => by match ds, h with | [_, _], _ => exact ⟨rfl, rfl, rfl⟩)
      (ChangeSpec.witness6 (enc := enc) (C := Try.checked) false ⟨#[], #[.agg #[.int .i64 0], .slice none 0 0], []⟩ 8 (by kernel_rfl) (by kernel_rfl) (by kernel_rfl) (by kernel_rfl))
      exactshuffled_c)

end Go.Proofs.Ytdkhghnhggedbaa
