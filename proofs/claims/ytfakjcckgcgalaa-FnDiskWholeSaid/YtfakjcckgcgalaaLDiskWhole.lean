/- The law FnDiskWhole is true for every input: it returns true, and what it was given reads as before. -/
import Derived.Test.YtfakjcckgcgalaaCod
import Derived.Test.YtfakjcckgcgalaaDkw
import Derived.Test.YtfakjcckgcgalaaW5
import Derived.Deep.DeepCutAuto
set_option linter.unusedVariables false
set_option linter.unusedSimpArgs false
namespace Go.Proofs.Ytfakjcckgcgalaa
open Go.RowKit Go.Sl

set_option maxHeartbeats 16000000 in
set_option maxRecDepth 100000 in
theorem diskwhole_c (W : World) (args : Array Value) (hs : args.size = 1) (h : ∀ (j : Nat) t v, Try.f11.params[j]? = some t → args[j]? = some v → ArgOk Try.prog W t v) :
    Calls Try.prog 11 args W fun e W' => e = .returned (.bool true) ∧ Ext W W' := by
  match args, hs with
  | ⟨[a0]⟩, _ =>
    obtain ⟨ca, n, cc, rfl, hn1, hn2, HC⟩ := arg_code (h 0 _ a0 rfl rfl)
    clear h
    by_cases hbig : n ≤ 4096
    rotate_left
    · have hb : decide ((4096 : Int) < n) = true := by rw [decide_eq_true_iff]; omega
      have Hb := Lib.hid hb; clear hb
      go_enter Try.func11, Try.ntmps11
      go_wp2_with (go_at_call 40; refine (big_c _ _ _ _).mono ?_; rw [Hb.out]; rintro e w' ⟨rfl, rfl⟩)
      go_ret
      exact ⟨rfl, Ext.refl _⟩
    have hb : decide ((4096 : Int) < n) = false := by rw [decide_eq_false_iff_not]; omega
    have Hb := Lib.hid hb; clear hb
    go_enter Try.func11, Try.ntmps11
    go_wp2_with fail
    refine (big_c _ _ _ _).mono ?_
    rw [Hb.out]
    rintro e w' ⟨rfl, rfl⟩
    go_wp2_with fail
    refine (drawSynced_c n cc ca _ (by omega) HC.out).mono ?_
    rintro e w1 ⟨u, v, d, rfl, hV, X1⟩
    obtain ⟨⟨pa, pc, rfl⟩, qa, qc, rfl⟩ := disk_formV hV
    have HD := Lib.hid (DM.new hV 25)
    have HX := Lib.hid (X1.trans (Ext.alloc w1 (.cells #[.slice pa d.1.length pc, .slice qa d.2.length qc] 25)))
    clear hV X1
    go_upto_region 4 with fail
    generalize w1.alloc (.cells #[.slice pa d.1.length pc, .slice qa d.2.length qc] 25) = w0 at *
    have HO := Lib.hid (row_empty w0.heap.size w0 2 (Nat.le_refl _))
    go_wp2
    go_loopw [4, 5] (fun v4 v5 wr => ∃ (k : Nat) (l : List Int) (ra : Option Addr) (rc : Nat), k ≤ 60 ∧ v5 = .int .i64 k ∧ v4 = .slice ra l.length rc ∧ Hid (l = List.replicate k 1 ∧ rowC.own w0.heap.size wr.heap.size wr [.slice ra l.length rc] l ∧ Ext w0 wr)) (fun _ v5 _ => 60 - (intOf v5).toNat)
    case atStart => exact ⟨0, [], _, _, by omega, rfl, rfl, Lib.hid ⟨rfl, HO.out, Ext.alloc _ _⟩⟩
    case round =>
      clear HO
      obtain ⟨k, l, ra, rc, hk, rfl, rfl, HI⟩ := hrel
      obtain ⟨wq, hwq⟩ : ∃ w, w = wr := ⟨_, rfl⟩
      subst hwq
      by_cases hlt : k < 60
      · have hd : decide ((k : Int) < 60) = true := by rw [decide_eq_true_iff]; omega
        have hw1 : IntKind.i64.wrap ((k : Int) + 1) = k + 1 := IntWalk.i64_in _ (by omega)
        have zq := HI.out.2.2.size
        have hll : l.length ≤ 60 := by rw [HI.out.1, List.length_replicate]; exact hk
        go_wp2_with (at_builtin; go_loud (refine wpList_snocC (R := intC) (y := 1) (lo := w0.heap.size) (hi := wq.heap.size) (lo' := wq.heap.size) (hi' := wq.heap.size) rfl _ _ _ rfl 2 _ 8 Try.underlying37 Try.infoI rfl (Cd.own.pAlloc HI.out.2.1 _) rfl (int_ownD _ _ _ _) (Nat.le_refl _) (by omega) (by simp; omega) _ _ rfl (CellsAt.lit _ _ _) (by omega) ?_))
        intro v4 w4 a4 c4 hv4 hO4 hC4
        subst hv4
        have HO4 := Lib.hid hO4
        have HX4 := Lib.hid (Chg.ext (HI.out.2.2.trans (Ext.alloc _ _)) hC4 (Nat.le_refl _))
        have HL4 : Hid (l ++ [1] = List.replicate (k + 1) 1) := Lib.hid (by rw [List.replicate_succ', HI.out.1])
        clear hC4 hO4 HI
        go_wp2
        go_roundw
        case rel => exact ⟨k + 1, l ++ [1], _, _, by omega, by go_num, by rw [List.length_append]; rfl, Lib.hid ⟨HL4.out, by rw [List.length_append]; exact HO4.out, HX4.out⟩⟩
        case measure => simp [intOf]; omega
      · have hd : decide ((k : Int) < 60) = false := by rw [decide_eq_false_iff_not]; omega
        have hF : rowC.V wq [.slice ra l.length rc] (List.replicate 60 1) := by
          have h9 := HI.out.2.1.view
          have h8 : l = List.replicate 60 1 := by rw [HI.out.1, show k = 60 by omega]
          rw [h8] at h9 ⊢; exact h9
        have HF := Lib.hid hF
        replace HD := Lib.hid (HD.out.grow HI.out.2.2)
        replace HX := Lib.hid (HX.out.trans HI.out.2.2)
        clear hF HI hk hlt
        cases hok : diskOk d
        · have Hok := Lib.hid hok
          clear hok
          have c0 := HD.out.box.cell 0 _ rfl; have c1 := HD.out.box.cell 1 _ rfl
          go_wp2_with fail
          skip
          refine (implSynced_c _ d _ HD.out.view).mono ?_
          rw [synced_no Hok.out]
          rintro e w5 ⟨u9, v9, rfl, X9, O9⟩
          obtain ⟨⟨xa, xc, rfl⟩, ya, yc, rfl⟩ := disk_form O9
          (try simp only [List.length_nil] at O9 ⊢)
          have HD5 := Lib.hid (DM.new O9.view 25)
          skip
          replace HD := Lib.hid (HD.out.grow (X9.trans (Ext.alloc w5 (.cells #[.slice xa 0 xc, .slice ya 0 yc] 25))))
          replace HX := Lib.hid (HX.out.trans (X9.trans (Ext.alloc w5 (.cells #[.slice xa 0 xc, .slice ya 0 yc] 25))))
          replace HF := Lib.hid (rowC.vext HF.out (X9.trans (Ext.alloc w5 (.cells #[.slice xa 0 xc, .slice ya 0 yc] 25))))
          clear X9 O9 c0 c1
          have c0 := HD.out.box.cell 0 _ rfl; have c1 := HD.out.box.cell 1 _ rfl
          go_wp2_with fail
          skip
          refine (implFallen_c _ d _ (List.replicate 60 1) _ HD.out.view HF.out).mono ?_
          rw [fallen_no Hok.out]
          rintro e w6 ⟨u9, v9, rfl, X9, O9⟩
          obtain ⟨⟨xa2, xc2, rfl⟩, ya2, yc2, rfl⟩ := disk_form O9
          (try simp only [List.length_nil] at O9 ⊢)
          have HD6 := Lib.hid (DM.new O9.view 25)
          replace HD5 := Lib.hid (HD5.out.grow (X9.trans (Ext.alloc w6 (.cells #[.slice xa2 0 xc2, .slice ya2 0 yc2] 25))))
          replace HD := Lib.hid (HD.out.grow (X9.trans (Ext.alloc w6 (.cells #[.slice xa2 0 xc2, .slice ya2 0 yc2] 25))))
          replace HX := Lib.hid (HX.out.trans (X9.trans (Ext.alloc w6 (.cells #[.slice xa2 0 xc2, .slice ya2 0 yc2] 25))))
          clear X9 O9 c0 c1 HF
          go_upto_region 11 with fail
          generalize w6.alloc (.cells #[.slice xa2 0 xc2, .slice ya2 0 yc2] 25) = wy at *
          have c0 := HD.out.box.cell 0 _ rfl; have c1 := HD.out.box.cell 1 _ rfl
          go_wp2_with fail
          refine (implFallen_c _ d _ [] _ (HD.out.grow (Ext.alloc wy (.cells #[] 2))).view (row_empty 0 wy 2 (Nat.zero_le _)).view).mono ?_
          rw [fallen_no Hok.out]
          rintro e w7 ⟨u9, v9, rfl, X9, O9⟩
          obtain ⟨⟨xa3, xc3, rfl⟩, ya3, yc3, rfl⟩ := disk_form O9
          (try simp only [List.length_nil] at O9 ⊢)
          have HD7 := Lib.hid (DM.new O9.view 25)
          replace HD5 := Lib.hid (HD5.out.grow (((Ext.alloc wy (.cells #[] 2)).trans X9).trans (Ext.alloc w7 (.cells #[.slice xa3 0 xc3, .slice ya3 0 yc3] 25))))
          replace HD6 := Lib.hid (HD6.out.grow (((Ext.alloc wy (.cells #[] 2)).trans X9).trans (Ext.alloc w7 (.cells #[.slice xa3 0 xc3, .slice ya3 0 yc3] 25))))
          replace HD := Lib.hid (HD.out.grow (((Ext.alloc wy (.cells #[] 2)).trans X9).trans (Ext.alloc w7 (.cells #[.slice xa3 0 xc3, .slice ya3 0 yc3] 25))))
          replace HX := Lib.hid (HX.out.trans (((Ext.alloc wy (.cells #[] 2)).trans X9).trans (Ext.alloc w7 (.cells #[.slice xa3 0 xc3, .slice ya3 0 yc3] 25))))
          clear X9 O9 c0 c1
          have c0 := HD.out.box.cell 0 _ rfl; have c1 := HD.out.box.cell 1 _ rfl
          go_wp2_with fail
          refine (specDiskOk_c _ d _ HD.out.view).mono ?_
          rw [Hok.out]
          rintro e w8 ⟨rfl, X8⟩
          replace HD := Lib.hid (HD.out.grow X8)
          replace HD5 := Lib.hid (HD5.out.grow X8)
          replace HD6 := Lib.hid (HD6.out.grow X8)
          replace HD7 := Lib.hid (HD7.out.grow X8)
          replace HX := Lib.hid (HX.out.trans X8)
          clear X8 c0 c1
          have c0 := HD.out.box.cell 0 _ rfl; have c5 := HD5.out.box.cell 0 _ rfl; have c6 := HD6.out.box.cell 0 _ rfl; have c7 := HD7.out.box.cell 0 _ rfl
          go_wp2
          go_ret
          exact ⟨rfl, HX.out⟩
        · have Hok := Lib.hid hok
          clear hok
          have c0 := HD.out.box.cell 0 _ rfl; have c1 := HD.out.box.cell 1 _ rfl
          go_wp2_with fail
          skip
          refine (implSynced_c _ d _ HD.out.view).mono ?_
          rintro e w5 ⟨u9, v9, rfl, X9, O9⟩
          obtain ⟨⟨xa, xc, rfl⟩, ya, yc, rfl⟩ := disk_form O9
          have hsl := Lib.hid (synced_len Hok.out)
          have hones := Lib.hid (fallen_ones Hok.out)
          generalize synced d = ds at *
          have HD5 := Lib.hid (DM.new O9.view 25)
          skip
          replace HD := Lib.hid (HD.out.grow (X9.trans (Ext.alloc w5 (.cells #[.slice xa ds.1.length xc, .slice ya ds.2.length yc] 25))))
          replace HX := Lib.hid (HX.out.trans (X9.trans (Ext.alloc w5 (.cells #[.slice xa ds.1.length xc, .slice ya ds.2.length yc] 25))))
          replace HF := Lib.hid (rowC.vext HF.out (X9.trans (Ext.alloc w5 (.cells #[.slice xa ds.1.length xc, .slice ya ds.2.length yc] 25))))
          clear X9 O9 c0 c1
          have c0 := HD.out.box.cell 0 _ rfl; have c1 := HD.out.box.cell 1 _ rfl
          go_wp2_with fail
          skip
          refine (implFallen_c _ d _ (List.replicate 60 1) _ HD.out.view HF.out).mono ?_
          rw [hones.out]
          rintro e w6 ⟨u9, v9, rfl, X9, O9⟩
          obtain ⟨⟨xa2, xc2, rfl⟩, ya2, yc2, rfl⟩ := disk_form O9
          have HD6 := Lib.hid (DM.new O9.view 25)
          replace HD5 := Lib.hid (HD5.out.grow (X9.trans (Ext.alloc w6 (.cells #[.slice xa2 ds.1.length xc2, .slice ya2 ds.2.length yc2] 25))))
          replace HD := Lib.hid (HD.out.grow (X9.trans (Ext.alloc w6 (.cells #[.slice xa2 ds.1.length xc2, .slice ya2 ds.2.length yc2] 25))))
          replace HX := Lib.hid (HX.out.trans (X9.trans (Ext.alloc w6 (.cells #[.slice xa2 ds.1.length xc2, .slice ya2 ds.2.length yc2] 25))))
          clear X9 O9 c0 c1 HF
          go_upto_region 11 with fail
          generalize w6.alloc (.cells #[.slice xa2 ds.1.length xc2, .slice ya2 ds.2.length yc2] 25) = wy at *
          have c0 := HD.out.box.cell 0 _ rfl; have c1 := HD.out.box.cell 1 _ rfl
          go_wp2_with fail
          refine (implFallen_c _ d _ [] _ (HD.out.grow (Ext.alloc wy (.cells #[] 2))).view (row_empty 0 wy 2 (Nat.zero_le _)).view).mono ?_
          rw [fallen_none Hok.out]
          rintro e w7 ⟨u9, v9, rfl, X9, O9⟩
          obtain ⟨⟨xa3, xc3, rfl⟩, ya3, yc3, rfl⟩ := disk_form O9
          (try simp only [List.length_nil] at O9 ⊢)
          have HD7 := Lib.hid (DM.new O9.view 25)
          replace HD5 := Lib.hid (HD5.out.grow (((Ext.alloc wy (.cells #[] 2)).trans X9).trans (Ext.alloc w7 (.cells #[.slice xa3 d.1.length xc3, .slice ya3 0 yc3] 25))))
          replace HD6 := Lib.hid (HD6.out.grow (((Ext.alloc wy (.cells #[] 2)).trans X9).trans (Ext.alloc w7 (.cells #[.slice xa3 d.1.length xc3, .slice ya3 0 yc3] 25))))
          replace HD := Lib.hid (HD.out.grow (((Ext.alloc wy (.cells #[] 2)).trans X9).trans (Ext.alloc w7 (.cells #[.slice xa3 d.1.length xc3, .slice ya3 0 yc3] 25))))
          replace HX := Lib.hid (HX.out.trans (((Ext.alloc wy (.cells #[] 2)).trans X9).trans (Ext.alloc w7 (.cells #[.slice xa3 d.1.length xc3, .slice ya3 0 yc3] 25))))
          clear X9 O9 c0 c1
          have c0 := HD.out.box.cell 0 _ rfl; have c1 := HD.out.box.cell 1 _ rfl
          go_wp2_with fail
          refine (specDiskOk_c _ d _ HD.out.view).mono ?_
          rw [Hok.out]
          rintro e w8 ⟨rfl, X8⟩
          replace HD := Lib.hid (HD.out.grow X8)
          replace HD5 := Lib.hid (HD5.out.grow X8)
          replace HD6 := Lib.hid (HD6.out.grow X8)
          replace HD7 := Lib.hid (HD7.out.grow X8)
          replace HX := Lib.hid (HX.out.trans X8)
          clear X8 c0 c1
          have c0 := HD.out.box.cell 0 _ rfl; have c5 := HD5.out.box.cell 0 _ rfl; have c6 := HD6.out.box.cell 0 _ rfl; have c7 := HD7.out.box.cell 0 _ rfl
          have hposN : decide (0 < ds.1.length) = true := by have h8 := diskOk_len Hok.out; have h9 := hsl.out; rw [decide_eq_true_iff]; omega
          have hpos : decide ((0 : Int) < (ds.1.length : Int)) = true := by have h8 := diskOk_len Hok.out; have h9 := hsl.out; rw [decide_eq_true_iff]; omega
          go_wp2_with fail
          refine (w5Rows_same _ _ ds.1 _ HD5.out.kept HD6.out.kept).mono ?_
          rintro e w9 ⟨rfl, X8⟩
          replace HD := Lib.hid (HD.out.grow X8)
          replace HD5 := Lib.hid (HD5.out.grow X8)
          replace HD6 := Lib.hid (HD6.out.grow X8)
          replace HD7 := Lib.hid (HD7.out.grow X8)
          replace HX := Lib.hid (HX.out.trans X8)
          clear X8 c0 c5 c6 c7
          have c0 := HD.out.box.cell 0 _ rfl; have c5 := HD5.out.box.cell 0 _ rfl; have c6 := HD6.out.box.cell 0 _ rfl; have c7 := HD7.out.box.cell 0 _ rfl
          go_wp2_with fail
          refine (w5Rows_same _ _ d.1 _ HD7.out.kept HD.out.kept).mono ?_
          rintro e w10 ⟨rfl, X8⟩
          replace HD := Lib.hid (HD.out.grow X8)
          replace HD5 := Lib.hid (HD5.out.grow X8)
          replace HD6 := Lib.hid (HD6.out.grow X8)
          replace HD7 := Lib.hid (HD7.out.grow X8)
          replace HX := Lib.hid (HX.out.trans X8)
          clear X8 c0 c5 c6 c7
          have c0 := HD.out.box.cell 0 _ rfl; have c5 := HD5.out.box.cell 0 _ rfl; have c6 := HD6.out.box.cell 0 _ rfl; have c7 := HD7.out.box.cell 0 _ rfl
          go_wp2
          go_ret
          exact ⟨rfl, HX.out⟩

set_option maxRecDepth 100000 in
theorem diskwhole_holds : Rows.FnDiskWholeSaid :=
  OpenClaim.holds_of_wide 11 Try.f11 rfl rfl rfl rfl rfl rfl rfl ⟨rfl, rfl, rfl, rfl, rfl⟩ rfl rfl rfl rfl rfl (by kernel_rfl) Try.func11 (by kernel_rfl)
    (of_decide_eq_true (by kernel_rfl)) (by unfold Func.isWrapper; rw [if_neg (of_decide_eq_false (by kernel_rfl))]; exact ⟨rfl, rfl⟩)
    (fun os started H enc _ => law_lifted (C := Try.checked) (f := 11) (fn := Try.f11) (s := Rows.fnDiskWholeSpec) (tb := 4) Try.own started (by kernel_rfl) Try.func11 Try.laidOut (of_decide_eq_true (by kernel_rfl)) rfl Try.underlying4 rfl
      (fun ds h => by match ds, h with | [_], _ => exact ⟨rfl, rfl, rfl⟩)
      (ChangeSpec.witness6 (enc := enc) (C := Try.checked) false ⟨#[], #[.slice none 0 0], []⟩ 8 (by kernel_rfl) (by kernel_rfl) (by kernel_rfl) (by kernel_rfl))
      diskwhole_c)

end Go.Proofs.Ytfakjcckgcgalaa
