/- The law FnPacks is true for every input: it returns true, and what it was given reads as before. -/
import Derived.Test.YtdkhghnhggedbaaCod
import Derived.Test.YtdkhghnhggedbaaPks
import Derived.Test.YtdkhghnhggedbaaPkp
import Derived.Test.YtdkhghnhggedbaaW5
import Derived.Test.YtdkhghnhggedbaaUp4
set_option linter.unusedVariables false
set_option linter.unusedSimpArgs false
namespace Go.Proofs.Ytdkhghnhggedbaa
open Go.RowKit Go.Sl

theorem lit_rows (w : World) (E1 E2 E3 : TypeId) (g : Nat) (hg : g = w.heap.size) :
    rowsC.V (((w.alloc (.cells #[.int .i64 1] E1)).alloc (.cells #[.int .i64 2, .int .i64 3] E2)).alloc (.cells #[.slice (some ⟨g, 0, none⟩) 1 1, .slice (some ⟨g + 1, 0, none⟩) 2 2] E3)) [.slice (some ⟨g + 2, 0, none⟩) 2 2] [[1], [2, 3]] := by
  subst hg
  refine ⟨_, 2, [.slice (some ⟨w.heap.size, 0, none⟩) 1 1, .slice (some ⟨w.heap.size + 1, 0, none⟩) 2 2], rfl, Nat.le_refl _, by simp [maxLen], ?_, [_], [_], rfl, ?_, [_], [], rfl, ?_, rfl⟩
  · exact CellsAt.litAt _ #[_, _] _ _ (by simp)
  · refine ⟨_, 1, [.int .i64 1], rfl, Nat.le_refl _, by simp [maxLen], ?_, elemsV_int.2 rfl⟩
    exact ((CellsAt.litAt w #[.int .i64 1] E1 _ rfl).ext (Ext.alloc _ _)).ext (Ext.alloc _ _)
  · refine ⟨_, 2, [.int .i64 2, .int .i64 3], rfl, Nat.le_refl _, by simp [maxLen], ?_, elemsV_int.2 rfl⟩
    exact (CellsAt.litAt _ #[.int .i64 2, .int .i64 3] E2 _ (by simp)).ext (Ext.alloc _ _)

set_option maxHeartbeats 4000000 in
set_option maxRecDepth 100000 in
theorem packs_c (W : World) (args : Array Value) (hs : args.size = 1) (h : ∀ (j : Nat) t v, Try.f11.params[j]? = some t → args[j]? = some v → ArgOk Try.prog W t v) :
    Calls Try.prog 11 args W fun e W' => e = .returned (.bool true) ∧ Ext W W' := by
  match args, hs with
  | ⟨[a0]⟩, _ =>
    obtain ⟨ca, n, cc, rfl, hn1, hn2, HC'⟩ := arg_code (h 0 _ a0 rfl rfl)
    have HC : Hid (CodeQ W ca n) := HC'
    clear h HC'
    by_cases hbig : n ≤ 4096
    rotate_left
    · have hb : decide ((4096 : Int) < n) = true := by rw [decide_eq_true_iff]; omega
      have Hb := Lib.hid hb; clear hb
      go_enter Try.func11, Try.ntmps11
      go_wp2_with (go_at_call 33; refine (big_c _ _ _ _).mono ?_; rw [Hb.out]; rintro e w' ⟨rfl, rfl⟩)
      go_ret
      exact ⟨rfl, Ext.refl _⟩
    have hb : decide ((4096 : Int) < n) = false := by rw [decide_eq_false_iff_not]; omega
    have Hb := Lib.hid hb; clear hb
    go_enter Try.func11, Try.ntmps11
    go_wp2_with fail
    refine (big_c _ _ _ _).mono ?_
    rw [Hb.out]
    rintro e w' ⟨rfl, rfl⟩
    go_wp2_with fail
    refine (drawPacked_c n cc ca _ (by omega) HC.out).mono ?_
    rintro e w1 ⟨v1, rows, rfl, O1, X1⟩
    obtain ⟨pa, pc, rfl⟩ := sl_formS O1.view
    have HO1 := Lib.hid O1; have HX1 := Lib.hid X1
    clear O1 X1
    go_wp2_with fail
    refine (implPacked_c _ rows _ HO1.out.view).mono ?_
    have hup := unpacked_packed (rows := rows)
    generalize packed rows = p at hup ⊢
    rintro e w2 ⟨v2, rfl, X2, O2⟩
    obtain ⟨qa, qc, rfl, -, -, -⟩ := row_take O2
    have HO2 := Lib.hid O2; have HX2 := Lib.hid (HX1.out.trans X2); have HP1 := Lib.hid (HO1.out.ext X2)
    have HU := Lib.hid hup
    clear O2 X2 HX1 HO1 hup
    by_cases hp : 0 < p.length
    · have hu := HU.out hp
      have HU2 := Lib.hid hu
      have hpd : decide ((0 : Int) < p.length) = true := by rw [decide_eq_true_iff]; omega
      clear hu HU
      go_wp2_with fail
      refine (implUnpacked_c _ p _ HO2.out.view).mono ?_
      rw [HU2.out]
      rintro e w3 ⟨v3, rfl, X3, O3⟩
      obtain ⟨ua, uc, rfl⟩ := sl_formS O3.view
      have HO3 := Lib.hid O3; have HX3 := Lib.hid (HX2.out.trans X3); have HP3 := Lib.hid (HP1.out.ext X3)
      clear O3 X3 HX2 HP1 HO2 HU2
      go_wp2_with fail
      refine (w5Rows_same _ _ rows _ HO3.out.view HP3.out.view).mono ?_
      rintro e w4 ⟨rfl, X4⟩
      have HX4 := Lib.hid (HX3.out.trans X4)
      clear X4 HX3 HO3 HP3
      go_wp2_with fail
      refine (drawUnpacked_c n cc ca _ (by omega) (HC.out.ext HX4.out)).mono ?_
      rintro e w5 ⟨v5, row, rfl, O5, X5⟩
      obtain ⟨ra, rc, rfl, -, -, -⟩ := row_take O5
      have HO5 := Lib.hid O5; have HX5 := Lib.hid (HX4.out.trans X5)
      clear O5 X5 HX4
      go_wp2_with fail
      refine (implUnpacked_c _ row _ HO5.out.view).mono ?_
      have hpk := fun v => packed_unpacked (row := row) (v := v)
      generalize unpacked row = vg at hpk ⊢
      obtain ⟨vv, good⟩ := vg
      rintro e w6 ⟨v6, rfl, X6, O6⟩
      simp only at O6 ⊢
      obtain ⟨ya, yc, rfl⟩ := sl_formS O6.view
      have HO6 := Lib.hid O6; have HX6 := Lib.hid (HX5.out.trans X6); have HR6 := Lib.hid (HO5.out.ext X6)
      have HPK := Lib.hid hpk
      clear O6 X6 HX5 HO5 hpk
      cases good
      · clear HPK
        go_wp2_with fail
        refine (implPacked_c _ [[1], [2, 3]] _ (lit_rows _ _ _ _ _ (by first | rfl | simp))).mono ?_
        rw [show packed [[1], [2, 3]] = [2, 1, 1, 2, 2, 3] by decide]
        rintro e w8 ⟨v8, rfl, X8, O8⟩
        obtain ⟨za, zc, rfl, -, -, -⟩ := row_take O8
        have HX8 := Lib.hid (HX6.out.trans ((((Ext.alloc _ _).trans (Ext.alloc _ _)).trans (Ext.alloc _ _)).trans X8))
        clear X8 O8
        go_wp2
        go_ret
        exact ⟨rfl, HX8.out⟩
      · have hpk := HPK.out vv rfl
        have HPK2 := Lib.hid hpk
        clear hpk HPK
        go_wp2_with fail
        refine (implPacked_c _ vv _ HO6.out.view).mono ?_
        rw [HPK2.out]
        rintro e w7 ⟨v7, rfl, X7, O7⟩
        obtain ⟨za, zc, rfl, -, -, -⟩ := row_take O7
        have HO7 := Lib.hid O7; have HX7 := Lib.hid (HX6.out.trans X7); have HR7 := Lib.hid (HR6.out.ext X7)
        clear O7 X7 HX6 HR6 HO6 HPK2
        go_wp2_with fail
        refine (likeInts_c _ _ row row _ HO7.out.view HR7.out.view).mono ?_
        rw [decide_eq_true rfl]
        rintro e w9 ⟨rfl, X9⟩
        have HX9 := Lib.hid (HX7.out.trans X9)
        clear X9 HX7 HO7 HR7
        go_wp2_with fail
        refine (implPacked_c _ [[1], [2, 3]] _ (lit_rows _ _ _ _ _ (by first | rfl | simp))).mono ?_
        rw [show packed [[1], [2, 3]] = [2, 1, 1, 2, 2, 3] by decide]
        rintro e w8 ⟨v8, rfl, X8, O8⟩
        obtain ⟨ka, kc, rfl, -, -, -⟩ := row_take O8
        have HX8 := Lib.hid (HX9.out.trans ((((Ext.alloc _ _).trans (Ext.alloc _ _)).trans (Ext.alloc _ _)).trans X8))
        clear X8 O8
        go_wp2
        go_ret
        exact ⟨rfl, HX8.out⟩
    · have hpd : decide ((0 : Int) < p.length) = false := by rw [decide_eq_false_iff_not]; omega
      have HX4 := HX2
      clear HX2 HO2 HP1 HU
      go_wp2_with fail
      refine (drawUnpacked_c n cc ca _ (by omega) (HC.out.ext HX4.out)).mono ?_
      rintro e w5 ⟨v5, row, rfl, O5, X5⟩
      obtain ⟨ra, rc, rfl, -, -, -⟩ := row_take O5
      have HO5 := Lib.hid O5; have HX5 := Lib.hid (HX4.out.trans X5)
      clear O5 X5 HX4
      go_wp2_with fail
      refine (implUnpacked_c _ row _ HO5.out.view).mono ?_
      have hpk := fun v => packed_unpacked (row := row) (v := v)
      generalize unpacked row = vg at hpk ⊢
      obtain ⟨vv, good⟩ := vg
      rintro e w6 ⟨v6, rfl, X6, O6⟩
      simp only at O6 ⊢
      obtain ⟨ya, yc, rfl⟩ := sl_formS O6.view
      have HO6 := Lib.hid O6; have HX6 := Lib.hid (HX5.out.trans X6); have HR6 := Lib.hid (HO5.out.ext X6)
      have HPK := Lib.hid hpk
      clear O6 X6 HX5 HO5 hpk
      cases good
      · clear HPK
        go_wp2_with fail
        refine (implPacked_c _ [[1], [2, 3]] _ (lit_rows _ _ _ _ _ (by first | rfl | simp))).mono ?_
        rw [show packed [[1], [2, 3]] = [2, 1, 1, 2, 2, 3] by decide]
        rintro e w8 ⟨v8, rfl, X8, O8⟩
        obtain ⟨za, zc, rfl, -, -, -⟩ := row_take O8
        have HX8 := Lib.hid (HX6.out.trans ((((Ext.alloc _ _).trans (Ext.alloc _ _)).trans (Ext.alloc _ _)).trans X8))
        clear X8 O8
        go_wp2
        go_ret
        exact ⟨rfl, HX8.out⟩
      · have hpk := HPK.out vv rfl
        have HPK2 := Lib.hid hpk
        clear hpk HPK
        go_wp2_with fail
        refine (implPacked_c _ vv _ HO6.out.view).mono ?_
        rw [HPK2.out]
        rintro e w7 ⟨v7, rfl, X7, O7⟩
        obtain ⟨za, zc, rfl, -, -, -⟩ := row_take O7
        have HO7 := Lib.hid O7; have HX7 := Lib.hid (HX6.out.trans X7); have HR7 := Lib.hid (HR6.out.ext X7)
        clear O7 X7 HX6 HR6 HO6 HPK2
        go_wp2_with fail
        refine (likeInts_c _ _ row row _ HO7.out.view HR7.out.view).mono ?_
        rw [decide_eq_true rfl]
        rintro e w9 ⟨rfl, X9⟩
        have HX9 := Lib.hid (HX7.out.trans X9)
        clear X9 HX7 HO7 HR7
        go_wp2_with fail
        refine (implPacked_c _ [[1], [2, 3]] _ (lit_rows _ _ _ _ _ (by first | rfl | simp))).mono ?_
        rw [show packed [[1], [2, 3]] = [2, 1, 1, 2, 2, 3] by decide]
        rintro e w8 ⟨v8, rfl, X8, O8⟩
        obtain ⟨ka, kc, rfl, -, -, -⟩ := row_take O8
        have HX8 := Lib.hid (HX9.out.trans ((((Ext.alloc _ _).trans (Ext.alloc _ _)).trans (Ext.alloc _ _)).trans X8))
        clear X8 O8
        go_wp2
        go_ret
        exact ⟨rfl, HX8.out⟩


set_option maxRecDepth 100000 in
theorem packs_holds : Rows.FnPacksSaid :=
  OpenClaim.holds_of_wide 11 Try.f11 rfl rfl rfl rfl rfl rfl rfl ⟨rfl, rfl, rfl, rfl, rfl⟩ rfl rfl rfl rfl rfl (by kernel_rfl) Try.func11 (by kernel_rfl)
    (of_decide_eq_true (by kernel_rfl)) (by unfold Func.isWrapper; rw [if_neg (of_decide_eq_false (by kernel_rfl))]; exact ⟨rfl, rfl⟩)
    (fun os started H enc _ => law_lifted (C := Try.checked) (f := 11) (fn := Try.f11) (s := Rows.fnPacksSpec) (tb := 4) Try.own started (by kernel_rfl) Try.func11 Try.laidOut (of_decide_eq_true (by kernel_rfl)) rfl Try.underlying4 rfl
      (fun ds h => by match ds, h with | [_], _ => exact ⟨rfl, rfl, rfl⟩)
      (ChangeSpec.witness6 (enc := enc) (C := Try.checked) false ⟨#[], #[.slice none 0 0], []⟩ 8 (by kernel_rfl) (by kernel_rfl) (by kernel_rfl) (by kernel_rfl))
      packs_c)

end Go.Proofs.Ytdkhghnhggedbaa
