/- The law FnFallenDisk is true for every input: it returns true, and what it was given reads as before. -/
import Derived.Test.YtfakjcckgcgalaaCod
import Derived.Test.YtfakjcckgcgalaaDkf
import Derived.Test.YtfakjcckgcgalaaWo
import Derived.Deep.DeepCutAuto
set_option linter.unusedVariables false
set_option linter.unusedSimpArgs false
namespace Go.Proofs.Ytfakjcckgcgalaa
open Go.RowKit Go.Sl

set_option maxHeartbeats 16000000 in
set_option maxRecDepth 100000 in
theorem fallendisk_c (W : World) (args : Array Value) (hs : args.size = 1) (h : ∀ (j : Nat) t v, Try.f12.params[j]? = some t → args[j]? = some v → ArgOk Try.prog W t v) :
    Calls Try.prog 12 args W fun e W' => e = .returned (.bool true) ∧ Ext W W' := by
  match args, hs with
  | ⟨[a0]⟩, _ =>
    obtain ⟨ca, n, cc, rfl, hn1, hn2, HC⟩ := arg_code (h 0 _ a0 rfl rfl)
    clear h
    by_cases hbig : n ≤ 4096
    rotate_left
    · have hb : decide ((4096 : Int) < n) = true := by rw [decide_eq_true_iff]; omega
      have Hb := Lib.hid hb; clear hb
      go_enter Try.func12, Try.ntmps12
      go_wp2_with (go_at_call 40; refine (big_c _ _ _ _).mono ?_; rw [Hb.out]; rintro e w' ⟨rfl, rfl⟩)
      go_ret
      exact ⟨rfl, Ext.refl _⟩
    have hb : decide ((4096 : Int) < n) = false := by rw [decide_eq_false_iff_not]; omega
    have Hb := Lib.hid hb; clear hb
    go_enter Try.func12, Try.ntmps12
    go_wp2_with fail
    refine (big_c _ _ _ _).mono ?_
    rw [Hb.out]
    rintro e w' ⟨rfl, rfl⟩
    go_wp2_with fail
    refine (drawFallen_c n cc ca _ (by omega) HC.out).mono ?_
    rintro e w1 ⟨u, v, d, fv, fates, rfl, hfl, hV, hF, X1⟩
    obtain ⟨⟨pa, pc, rfl⟩, qa, qc, rfl⟩ := disk_formV hV
    obtain ⟨fa, fc, rfl⟩ := sl_form hF
    have HD := Lib.hid (DM.new hV 25)
    have HX := Lib.hid (X1.trans (Ext.alloc w1 (.cells #[.slice pa d.1.length pc, .slice qa d.2.length qc] 25)))
    have HF := Lib.hid (rowC.vext hF (Ext.alloc w1 (.cells #[.slice pa d.1.length pc, .slice qa d.2.length qc] 25)))
    clear hV hF X1
    go_upto_region 4 with fail
    generalize w1.alloc (.cells #[.slice pa d.1.length pc, .slice qa d.2.length qc] 25) = w0 at *
    generalize w1.heap.size = b3 at *
    have cHD0 := HD.out.box.cell 0 _ rfl; have cHD1 := HD.out.box.cell 1 _ rfl
    cases hok : diskOk d
    · have Hok := Lib.hid hok
      clear hok
      go_wp2_with fail
      refine (specDiskOk_c _ d _ HD.out.view).mono ?_
      rw [Hok.out]
      rintro e w8 ⟨rfl, X8⟩
      replace HX := Lib.hid (HX.out.trans X8)
      clear X8
      go_wp2
      go_ret
      exact ⟨rfl, HX.out⟩
    · have Hok := Lib.hid hok
      clear hok
      go_wp2_with fail
      refine (specDiskOk_c _ d _ HD.out.view).mono ?_
      rw [Hok.out]
      rintro e w2 ⟨rfl, X8⟩
      replace HF := Lib.hid (rowC.vext HF.out X8)
      replace HD := Lib.hid (HD.out.grow X8)
      replace HX := Lib.hid (HX.out.trans X8)
      clear X8 cHD0 cHD1
      have cHD0 := HD.out.box.cell 0 _ rfl; have cHD1 := HD.out.box.cell 1 _ rfl
      go_wp2_with fail
      refine (implSynced_c _ d _ HD.out.view).mono ?_
      have HKX := Lib.hid (synced_len Hok.out)
      have HSX := Lib.hid (synced_safe Hok.out)
      have HGX : Hid (∀ k : Nat, k < d.1.length → (synced d).1[k]? = some (readRow d k)) := Lib.hid (fun k hk => synced_get Hok.out hk)
      generalize synced d = dx at *
      rintro e w5 ⟨u9, v9, rfl, X9, O9⟩
      obtain ⟨⟨xa, xc, rfl⟩, ya, yc, rfl⟩ := disk_form O9
      have HX5 := Lib.hid (DM.new O9.view 25)
      replace HF := Lib.hid (rowC.vext HF.out (X9.trans (Ext.alloc w5 (.cells #[.slice xa dx.1.length xc, .slice ya dx.2.length yc] 25))))
      replace HD := Lib.hid (HD.out.grow (X9.trans (Ext.alloc w5 (.cells #[.slice xa dx.1.length xc, .slice ya dx.2.length yc] 25))))
      replace HX := Lib.hid (HX.out.trans (X9.trans (Ext.alloc w5 (.cells #[.slice xa dx.1.length xc, .slice ya dx.2.length yc] 25))))
      clear X9 O9 cHD0 cHD1
      go_upto_region 7 with fail
      generalize w5.alloc (.cells #[.slice xa dx.1.length xc, .slice ya dx.2.length yc] 25) = wx at *
      generalize w5.heap.size = b5 at *
      have cHD0 := HD.out.box.cell 0 _ rfl; have cHD1 := HD.out.box.cell 1 _ rfl
      go_wp2_with fail
      refine (implFallen_c _ d _ fates _ HD.out.view HF.out).mono ?_
      have HKF := Lib.hid (fallen_len Hok.out fates)
      have HSF := Lib.hid (fallen_safe Hok.out fates)
      have HOF := Lib.hid (diskOk_fallen Hok.out fates)
      have H2F := Lib.hid (fallen_two Hok.out fates)
      have HGF : Hid (∀ k : Nat, (∀ x ∈ d.2, x.1 ≠ (k : Int)) → (fallen d fates).1[k]? = d.1[k]?) := Lib.hid (fun k hk => fallen_get Hok.out fates hk)
      generalize fallen d fates = df at *
      rintro e w6 ⟨u9, v9, rfl, X9, O9⟩
      obtain ⟨⟨xa2, xc2, rfl⟩, ya2, yc2, rfl⟩ := disk_form O9
      have HX6 := Lib.hid (DM.new O9.view 25)
      replace HD := Lib.hid (HD.out.grow (X9.trans (Ext.alloc w6 (.cells #[.slice xa2 df.1.length xc2, .slice ya2 df.2.length yc2] 25))))
      replace HX5 := Lib.hid (HX5.out.grow (X9.trans (Ext.alloc w6 (.cells #[.slice xa2 df.1.length xc2, .slice ya2 df.2.length yc2] 25))))
      replace HX := Lib.hid (HX.out.trans (X9.trans (Ext.alloc w6 (.cells #[.slice xa2 df.1.length xc2, .slice ya2 df.2.length yc2] 25))))
      clear X9 O9 HF cHD0 cHD1
      go_upto_region 8 with fail
      generalize w6.alloc (.cells #[.slice xa2 df.1.length xc2, .slice ya2 df.2.length yc2] 25) = wy at *
      generalize w6.heap.size = b6 at *
      have cHD0 := HD.out.box.cell 0 _ rfl; have cHD1 := HD.out.box.cell 1 _ rfl
      have cHX50 := HX5.out.box.cell 0 _ rfl; have cHX51 := HX5.out.box.cell 1 _ rfl
      have cHX60 := HX6.out.box.cell 0 _ rfl; have cHX61 := HX6.out.box.cell 1 _ rfl
      have hlx : decide ((dx.1.length : Int) = (d.1.length : Int)) = true := by rw [HKX.out]; simp
      have hlf : decide ((df.1.length : Int) = (d.1.length : Int)) = true := by rw [HKF.out]; simp
      have hlx3 : ((dx.1.length : Int) != (d.1.length : Int)) = false := by rw [HKX.out]; simp
      have hlf3 : ((df.1.length : Int) != (d.1.length : Int)) = false := by rw [HKF.out]; simp
      have hlx2 : ((dx.1.length : Int) == (d.1.length : Int)) = true := by rw [HKX.out]; simp
      have hlf2 : ((df.1.length : Int) == (d.1.length : Int)) = true := by rw [HKF.out]; simp
      go_wp2_with fail
      refine (implSafeIn_c _ dx _ HX5.out.view).mono ?_
      rw [HSX.out]
      rintro e w7 ⟨rfl, X9⟩
      replace HD := Lib.hid (HD.out.grow X9)
      replace HX5 := Lib.hid (HX5.out.grow X9)
      replace HX6 := Lib.hid (HX6.out.grow X9)
      replace HX := Lib.hid (HX.out.trans X9)
      clear X9 cHD0 cHD1 cHX50 cHX51 cHX60 cHX61
      have cHD0 := HD.out.box.cell 0 _ rfl; have cHD1 := HD.out.box.cell 1 _ rfl
      have cHX50 := HX5.out.box.cell 0 _ rfl; have cHX51 := HX5.out.box.cell 1 _ rfl
      have cHX60 := HX6.out.box.cell 0 _ rfl; have cHX61 := HX6.out.box.cell 1 _ rfl
      go_wp2_with fail
      refine (implSafeIn_c _ df _ HX6.out.view).mono ?_
      rw [HSF.out]
      rintro e w8 ⟨rfl, X9⟩
      replace HD := Lib.hid (HD.out.grow X9)
      replace HX5 := Lib.hid (HX5.out.grow X9)
      replace HX6 := Lib.hid (HX6.out.grow X9)
      replace HX := Lib.hid (HX.out.trans X9)
      clear X9 cHD0 cHD1 cHX50 cHX51 cHX60 cHX61
      have cHD0 := HD.out.box.cell 0 _ rfl; have cHD1 := HD.out.box.cell 1 _ rfl
      have cHX50 := HX5.out.box.cell 0 _ rfl; have cHX51 := HX5.out.box.cell 1 _ rfl
      have cHX60 := HX6.out.box.cell 0 _ rfl; have cHX61 := HX6.out.box.cell 1 _ rfl
      go_upto_region 10 with fail
      clear hlx hlf hlx2 hlf2 hlx3 hlf3
      skip
      skip
      go_wp2
      go_loopw [7] (fun v7 wr => ∃ (k : Nat), v7 = .int .i64 k ∧ k ≤ d.1.length ∧ Hid (Ext w8 wr)) (fun v7 _ => d.1.length - (intOf v7).toNat)
      case atStart => exact ⟨0, rfl, by omega, Lib.hid (by repeat (first | exact Ext.refl _ | refine Ext.pDrew ?_))⟩
      case round =>
        obtain ⟨k, rfl, hk, HI⟩ := hrel
        obtain ⟨wq, hwq⟩ : ∃ w, w = wr := ⟨_, rfl⟩
        subst hwq
        clear cHD0 cHD1 cHX50 cHX51 cHX60 cHX61
        replace HD := Lib.hid (HD.out.grow HI.out)
        replace HX5 := Lib.hid (HX5.out.grow HI.out)
        replace HX6 := Lib.hid (HX6.out.grow HI.out)
        replace HX := Lib.hid (HX.out.trans HI.out)
        have cHD0 := HD.out.box.cell 0 _ rfl; have cHD1 := HD.out.box.cell 1 _ rfl
        have cHX50 := HX5.out.box.cell 0 _ rfl; have cHX51 := HX5.out.box.cell 1 _ rfl
        have cHX60 := HX6.out.box.cell 0 _ rfl; have cHX61 := HX6.out.box.cell 1 _ rfl
        by_cases hlt : k < d.1.length
        · have hd : decide ((k : Int) < (d.1.length : Int)) = true := by rw [decide_eq_true_iff]; omega
          have hlen := diskOk_len Hok.out
          have hw1 : IntKind.i64.wrap ((k : Int) + 1) = k + 1 := IntWalk.i64_in _ (by omega)
          obtain ⟨xb, xo, ra, rc, rfl, cx, hVx⟩ := HX5.out.row (HGX.out k hlt)
          have HVx := Lib.hid (And.intro cx hVx)
          obtain ⟨s, hs⟩ : ∃ s, d.1[k]? = some s := ⟨_, List.getElem?_eq_getElem hlt⟩
          have HS := Lib.hid hs
          clear hVx hs
          go_upto_region 13 with fail
          clear cx
          go_wp2_with fail
          refine (implReadAt_c _ d k _ HD.out.view).mono ?_
          rw [readAt_ok Hok.out hlt]
          generalize readRow d k = r at *
          rintro e wa ⟨v8, rfl, X9, O9⟩
          obtain ⟨va, vc, rfl⟩ := sl_form O9.view
          have HR := Lib.hid O9.view
          replace HI := Lib.hid (HI.out.trans X9)
          replace HVx := Lib.hid (And.intro (cell_ext HVx.out.1 X9) (rowC.vext HVx.out.2 X9))
          clear cHD0 cHD1 cHX50 cHX51 cHX60 cHX61
          replace HD := Lib.hid (HD.out.grow X9)
          replace HX5 := Lib.hid (HX5.out.grow X9)
          replace HX6 := Lib.hid (HX6.out.grow X9)
          replace HX := Lib.hid (HX.out.trans X9)
          clear X9 O9
          have cHD0 := HD.out.box.cell 0 _ rfl; have cHD1 := HD.out.box.cell 1 _ rfl
          have cHX50 := HX5.out.box.cell 0 _ rfl; have cHX51 := HX5.out.box.cell 1 _ rfl
          have cHX60 := HX6.out.box.cell 0 _ rfl; have cHX61 := HX6.out.box.cell 1 _ rfl
          go_wp2
          go_loopw [10, 11] (fun v10 v11 wr => ∃ (j c : Nat), v11 = .int .i64 j ∧ v10 = .int .i64 c ∧ j ≤ d.2.length ∧ Hid (NoW d.2 j k c ∧ Ext wa wr)) (fun _ v11 _ => d.2.length - (intOf v11).toNat)
          case atStart => exact ⟨0, 0, rfl, rfl, by omega, Lib.hid ⟨NoW.start _ _, (by repeat (first | exact Ext.refl _ | refine Ext.pDrew ?_))⟩⟩
          case round =>
            obtain ⟨j, c, rfl, rfl, hj, HJ⟩ := hrel
            obtain ⟨wb, hwb⟩ : ∃ w, w = wr := ⟨_, rfl⟩
            subst hwb
            replace HI := Lib.hid (HI.out.trans HJ.out.2)
            replace HVx := Lib.hid (And.intro (cell_ext HVx.out.1 HJ.out.2) (rowC.vext HVx.out.2 HJ.out.2))
            replace HR := Lib.hid (rowC.vext HR.out HJ.out.2)
            clear cHD0 cHD1 cHX50 cHX51 cHX60 cHX61
            replace HD := Lib.hid (HD.out.grow HJ.out.2)
            replace HX5 := Lib.hid (HX5.out.grow HJ.out.2)
            replace HX6 := Lib.hid (HX6.out.grow HJ.out.2)
            replace HX := Lib.hid (HX.out.trans HJ.out.2)
            have cHD0 := HD.out.box.cell 0 _ rfl; have cHD1 := HD.out.box.cell 1 _ rfl
            have cHX50 := HX5.out.box.cell 0 _ rfl; have cHX51 := HX5.out.box.cell 1 _ rfl
            have cHX60 := HX6.out.box.cell 0 _ rfl; have cHX61 := HX6.out.box.cell 1 _ rfl
            have hcj := HJ.out.1.1
            by_cases hjt : j < d.2.length
            · have hd2 : decide ((j : Int) < (d.2.length : Int)) = true := by rw [decide_eq_true_iff]; omega
              have hj1 : IntKind.i64.wrap ((j : Int) + 1) = j + 1 := IntWalk.i64_in _ (by omega)
              have hc1 : IntKind.i64.wrap ((c : Int) + 1) = c + 1 := IntWalk.i64_in _ (by omega)
              obtain ⟨tb, tq, x, rfl, Hx, ct⟩ := HD.out.wait hjt
              have hi1 : (0 : Int) ≤ j := by omega
              have hi2 : (j : Int) < (d.2.length : Int) := by omega
              by_cases hxk : x.1 = k
              · have e1 : decide (x.1 = (k : Int)) = true := by rw [decide_eq_true_iff]; exact hxk
                have e2 : (x.1 == (k : Int)) = true := by rw [beq_iff_eq]; exact hxk
                have HN := Lib.hid (HJ.out.1.hit)
                clear hxk
                go_wp2
                go_roundw
                case rel => exact ⟨j + 1, c + 1, by go_num, by go_num, by omega, Lib.hid ⟨HN.out, (HJ.out.2.trans (by repeat (first | exact Ext.refl _ | refine Ext.pDrew ?_)))⟩⟩
                case measure => simp [intOf]; omega
              · have e1 : decide (x.1 = (k : Int)) = false := by rw [decide_eq_false_iff_not]; exact hxk
                have e2 : (x.1 == (k : Int)) = false := by rw [beq_eq_false_iff_ne]; exact hxk
                have HN := Lib.hid (HJ.out.1.miss Hx hxk)
                clear hxk
                go_wp2
                go_roundw
                case rel => exact ⟨j + 1, c, by go_num, by go_num, by omega, Lib.hid ⟨HN.out, (HJ.out.2.trans (by repeat (first | exact Ext.refl _ | refine Ext.pDrew ?_)))⟩⟩
                case measure => simp [intOf]; omega
            · have hd2 : decide ((j : Int) < (d.2.length : Int)) = false := by rw [decide_eq_false_iff_not]; omega
              have hjl : j = d.2.length := by omega
              have HN : Hid (c = 0 → ∀ x ∈ d.2, x.1 ≠ (k : Int)) := Lib.hid (fun h0 => by have h9 := HJ.out.1.2 h0; rw [hjl, List.take_length] at h9; exact h9)
              clear hjl
              have cx := HVx.out.1
              have hi1 : (0 : Int) ≤ k := by omega
              have hi2 : (k : Int) < (dx.1.length : Int) := by rw [HKX.out]; omega
              have hi3 : (k : Int) < (df.1.length : Int) := by rw [HKF.out]; omega
              have hi4 : (k : Int) < (d.1.length : Int) := by omega
              go_upto_region 20 with fail
              by_cases hc0 : c = 0
              · have e1 : decide ((c : Int) = 0) = true := by rw [decide_eq_true_iff]; omega
                have e2 : ((c : Int) == 0) = true := by rw [beq_iff_eq]; omega
                have e3 : decide (c = 0) = true := by rw [decide_eq_true_iff]; omega
                have e4 : (c == 0) = true := by rw [beq_iff_eq]; omega
                obtain ⟨fb, fo, ga, gc, rfl, cf, hVf⟩ := HX6.out.row ((HGF.out k (HN.out hc0)).trans HS.out)
                obtain ⟨kb, ko, ha, hc, rfl, ck, hVk⟩ := HD.out.row HS.out
                have HVf := Lib.hid hVf
                have HVk := Lib.hid hVk
                clear hVf hVk hc0
                refine wp_region_held_drew (S := fun ω => ω.cell? ⟨b5, 0, none⟩ = some (.slice (some ⟨xb, xo, none⟩) dx.1.length xc) ∧ ω.cell? ⟨xb, xo + k, none⟩ = some (.slice ra r.length rc) ∧ ω.cell? ⟨b6, 0, none⟩ = some (.slice (some ⟨fb, fo, none⟩) df.1.length xc2) ∧ ω.cell? ⟨fb, fo + k, none⟩ = some (.slice ga s.length gc) ∧ ω.cell? ⟨b3, 0, none⟩ = some (.slice (some ⟨kb, ko, none⟩) d.1.length pc) ∧ ω.cell? ⟨kb, ko + k, none⟩ = some (.slice ha s.length hc) ∧ Ext wb ω) (by kernel_rfl) ?_ (fun hHeld => ?_)
                · (try dsimp only); exact ⟨cHX50, cx, cHX60, cf, cHD0, ck, Ext.drew _⟩
                refine wpAnyH_take (i := 0) (v := ?_) rfl (by kernel_rfl) (by kernel_rfl) (by kernel_rfl) (fun _ _ _ h => h) (Or.inl ⟨by rfl, ?_⟩) (by assumption) ?_
                rotate_left
                · intro w9 hSw; (try dsimp only at hSw); go_simp; (first | done | with_reducible rfl)
                (try simp only [List.getElem_toArray, List.getElem_cons_succ, List.getElem_cons_zero, Act.put, List.setIfInBounds_toArray, List.set_cons_zero, List.set_cons_succ])
                refine wpAnyH_take (i := 1) (v := ?_) rfl (by kernel_rfl) (by kernel_rfl) (by kernel_rfl) (fun _ _ _ h => h) (Or.inl ⟨by rfl, ?_⟩) (by assumption) ?_
                rotate_left
                · intro w9 hSw; (try dsimp only at hSw); go_simp; (first | done | with_reducible rfl)
                (try simp only [List.getElem_toArray, List.getElem_cons_succ, List.getElem_cons_zero, Act.put, List.setIfInBounds_toArray, List.set_cons_zero, List.set_cons_succ])
                refine wpAnyH_take (i := 2) (v := ?_) rfl (by kernel_rfl) (by kernel_rfl) (by kernel_rfl) (fun _ _ _ h => h) (Or.inl ⟨by rfl, ?_⟩) (by assumption) ?_
                rotate_left
                · intro w9 hSw; (try dsimp only at hSw); go_simp; (first | done | with_reducible rfl)
                (try simp only [List.getElem_toArray, List.getElem_cons_succ, List.getElem_cons_zero, Act.put, List.setIfInBounds_toArray, List.set_cons_zero, List.set_cons_succ])
                refine wpAnyH_take (i := 3) (v := ?_) rfl (by kernel_rfl) (by kernel_rfl) (by kernel_rfl) (fun _ _ _ h => h) (Or.inl ⟨by rfl, ?_⟩) (by assumption) ?_
                rotate_left
                · intro w9 hSw; (try dsimp only at hSw); go_simp; (first | done | with_reducible rfl)
                (try simp only [List.getElem_toArray, List.getElem_cons_succ, List.getElem_cons_zero, Act.put, List.setIfInBounds_toArray, List.set_cons_zero, List.set_cons_succ])
                refine wpAnyH_take (i := 4) (v := ?_) rfl (by kernel_rfl) (by kernel_rfl) (by kernel_rfl) (fun _ _ _ h => h) (Or.inl ⟨by rfl, ?_⟩) (by assumption) ?_
                rotate_left
                · intro w9 hSw; (try dsimp only at hSw); go_simp; (first | done | with_reducible rfl)
                (try simp only [List.getElem_toArray, List.getElem_cons_succ, List.getElem_cons_zero, Act.put, List.setIfInBounds_toArray, List.set_cons_zero, List.set_cons_succ])
                refine wpAnyH_take (i := 5) (v := ?_) rfl (by kernel_rfl) (by kernel_rfl) (by kernel_rfl) (fun _ _ _ h => h) (Or.inl ⟨by rfl, ?_⟩) (by assumption) ?_
                rotate_left
                · intro w9 hSw; (try dsimp only at hSw); go_simp; (first | done | with_reducible rfl)
                (try simp only [List.getElem_toArray, List.getElem_cons_succ, List.getElem_cons_zero, Act.put, List.setIfInBounds_toArray, List.set_cons_zero, List.set_cons_succ])
                refine wpAnyH_ready (rs := [6]) (by kernel_rfl) (by simp) ?_
                refine AllReadyH.cons rfl (fun K hK => ?_) AllReadyH.nil
                go_simp
                refine (likeInts_c _ _ r r _ (rowC.vext HVx.out.2 hHeld.2.2.2.2.2.2) (rowC.vext HR.out hHeld.2.2.2.2.2.2)).mono ?_
                rw [decide_eq_true rfl]
                rintro e wz ⟨rfl, hEz⟩
                (try go_wp2_with fail)
                refine hK.out _ _ ?_ (fun hHeld2 => ?_)
                · (try dsimp only); (obtain ⟨s0, s1, s2, s3, s4, s5, s6⟩ := hHeld; exact ⟨cell_ext s0 hEz, cell_ext s1 hEz, cell_ext s2 hEz, cell_ext s3 hEz, cell_ext s4 hEz, cell_ext s5 hEz, s6.trans hEz⟩)
                clear hK K hHeld
                rename _ => hHeld
                (try simp only [List.getElem_toArray, List.getElem_cons_succ, List.getElem_cons_zero, Act.put, List.setIfInBounds_toArray, List.set_cons_zero, List.set_cons_succ])
                refine wpAnyH_take (i := 7) (v := ?_) rfl (by kernel_rfl) (by kernel_rfl) (by kernel_rfl) (fun _ _ _ h => h) (Or.inl ⟨by rfl, ?_⟩) (by assumption) ?_
                rotate_left
                · intro w9 hSw; (try dsimp only at hSw); go_simp; (first | done | with_reducible rfl)
                (try simp only [List.getElem_toArray, List.getElem_cons_succ, List.getElem_cons_zero, Act.put, List.setIfInBounds_toArray, List.set_cons_zero, List.set_cons_succ])
                refine wpAnyH_take (i := 8) (v := ?_) rfl (by kernel_rfl) (by kernel_rfl) (by kernel_rfl) (fun _ _ _ h => h) (Or.inl ⟨by rfl, ?_⟩) (by assumption) ?_
                rotate_left
                · intro w9 hSw; (try dsimp only at hSw); go_simp; (first | done | with_reducible rfl)
                (try simp only [List.getElem_toArray, List.getElem_cons_succ, List.getElem_cons_zero, Act.put, List.setIfInBounds_toArray, List.set_cons_zero, List.set_cons_succ])
                refine wpAnyH_take (i := 9) (v := ?_) rfl (by kernel_rfl) (by kernel_rfl) (by kernel_rfl) (fun _ _ _ h => h) (Or.inl ⟨by rfl, ?_⟩) (by assumption) ?_
                rotate_left
                · intro w9 hSw; (try dsimp only at hSw); go_simp; (first | done | with_reducible rfl)
                (try simp only [List.getElem_toArray, List.getElem_cons_succ, List.getElem_cons_zero, Act.put, List.setIfInBounds_toArray, List.set_cons_zero, List.set_cons_succ])
                refine wpAnyH_take (i := 10) (v := ?_) rfl (by kernel_rfl) (by kernel_rfl) (by kernel_rfl) (fun _ _ _ h => h) (Or.inl ⟨by rfl, ?_⟩) (by assumption) ?_
                rotate_left
                · intro w9 hSw; (try dsimp only at hSw); go_simp; (first | done | with_reducible rfl)
                (try simp only [List.getElem_toArray, List.getElem_cons_succ, List.getElem_cons_zero, Act.put, List.setIfInBounds_toArray, List.set_cons_zero, List.set_cons_succ])
                refine wpAnyH_take (i := 11) (v := ?_) rfl (by kernel_rfl) (by kernel_rfl) (by kernel_rfl) (fun _ _ _ h => h) (Or.inl ⟨by rfl, ?_⟩) (by assumption) ?_
                rotate_left
                · intro w9 hSw; (try dsimp only at hSw); go_simp; (first | done | with_reducible rfl)
                (try simp only [List.getElem_toArray, List.getElem_cons_succ, List.getElem_cons_zero, Act.put, List.setIfInBounds_toArray, List.set_cons_zero, List.set_cons_succ])
                refine wpAnyH_take (i := 12) (v := ?_) rfl (by kernel_rfl) (by kernel_rfl) (by kernel_rfl) (fun _ _ _ h => h) (Or.inl ⟨by rfl, ?_⟩) (by assumption) ?_
                rotate_left
                · intro w9 hSw; (try dsimp only at hSw); go_simp; (first | done | with_reducible rfl)
                (try simp only [List.getElem_toArray, List.getElem_cons_succ, List.getElem_cons_zero, Act.put, List.setIfInBounds_toArray, List.set_cons_zero, List.set_cons_succ])
                refine wpAnyH_take (i := 13) (v := ?_) rfl (by kernel_rfl) (by kernel_rfl) (by kernel_rfl) (fun _ _ _ h => h) (Or.inl ⟨by rfl, ?_⟩) (by assumption) ?_
                rotate_left
                · intro w9 hSw; (try dsimp only at hSw); go_simp; (first | done | with_reducible rfl)
                (try simp only [List.getElem_toArray, List.getElem_cons_succ, List.getElem_cons_zero, Act.put, List.setIfInBounds_toArray, List.set_cons_zero, List.set_cons_succ])
                refine wpAnyH_take (i := 14) (v := ?_) rfl (by kernel_rfl) (by kernel_rfl) (by kernel_rfl) (fun _ _ _ h => h) (Or.inl ⟨by rfl, ?_⟩) (by assumption) ?_
                rotate_left
                · intro w9 hSw; (try dsimp only at hSw); go_simp; (first | done | with_reducible rfl)
                (try simp only [List.getElem_toArray, List.getElem_cons_succ, List.getElem_cons_zero, Act.put, List.setIfInBounds_toArray, List.set_cons_zero, List.set_cons_succ])
                refine wpAnyH_take (i := 15) (v := ?_) rfl (by kernel_rfl) (by kernel_rfl) (by kernel_rfl) (fun _ _ _ h => h) (Or.inl ⟨by rfl, ?_⟩) (by assumption) ?_
                rotate_left
                · intro w9 hSw; (try dsimp only at hSw); go_simp; (first | done | with_reducible rfl)
                (try simp only [List.getElem_toArray, List.getElem_cons_succ, List.getElem_cons_zero, Act.put, List.setIfInBounds_toArray, List.set_cons_zero, List.set_cons_succ])
                refine wpAnyH_take (i := 16) (v := ?_) rfl (by kernel_rfl) (by kernel_rfl) (by kernel_rfl) (fun _ _ _ h => h) (Or.inl ⟨by rfl, ?_⟩) (by assumption) ?_
                rotate_left
                · intro w9 hSw; (try dsimp only at hSw); go_simp; (first | done | with_reducible rfl)
                (try simp only [List.getElem_toArray, List.getElem_cons_succ, List.getElem_cons_zero, Act.put, List.setIfInBounds_toArray, List.set_cons_zero, List.set_cons_succ])
                refine wpAnyH_take (i := 17) (v := ?_) rfl (by kernel_rfl) (by kernel_rfl) (by kernel_rfl) (fun _ _ _ h => h) (Or.inl ⟨by rfl, ?_⟩) (by assumption) ?_
                rotate_left
                · intro w9 hSw; (try dsimp only at hSw); go_simp; (first | done | with_reducible rfl)
                (try simp only [List.getElem_toArray, List.getElem_cons_succ, List.getElem_cons_zero, Act.put, List.setIfInBounds_toArray, List.set_cons_zero, List.set_cons_succ])
                refine wpAnyH_take (i := 18) (v := ?_) rfl (by kernel_rfl) (by kernel_rfl) (by kernel_rfl) (fun _ _ _ h => h) (Or.inl ⟨by rfl, ?_⟩) (by assumption) ?_
                rotate_left
                · intro w9 hSw; (try dsimp only at hSw); go_simp; (first | done | with_reducible rfl)
                (try simp only [List.getElem_toArray, List.getElem_cons_succ, List.getElem_cons_zero, Act.put, List.setIfInBounds_toArray, List.set_cons_zero, List.set_cons_succ])
                refine wpAnyH_take (i := 19) (v := ?_) rfl (by kernel_rfl) (by kernel_rfl) (by kernel_rfl) (fun _ _ _ h => h) (Or.inl ⟨by rfl, ?_⟩) (by assumption) ?_
                rotate_left
                · intro w9 hSw; (try dsimp only at hSw); go_simp; (first | done | with_reducible rfl)
                (try simp only [List.getElem_toArray, List.getElem_cons_succ, List.getElem_cons_zero, Act.put, List.setIfInBounds_toArray, List.set_cons_zero, List.set_cons_succ])
                refine wpAnyH_take (i := 20) (v := ?_) rfl (by kernel_rfl) (by kernel_rfl) (by kernel_rfl) (fun _ _ _ h => h) (Or.inl ⟨by rfl, ?_⟩) (by assumption) ?_
                rotate_left
                · intro w9 hSw; (try dsimp only at hSw); go_simp; (first | done | with_reducible rfl)
                (try simp only [List.getElem_toArray, List.getElem_cons_succ, List.getElem_cons_zero, Act.put, List.setIfInBounds_toArray, List.set_cons_zero, List.set_cons_succ])
                refine wpAnyH_take (i := 21) (v := ?_) rfl (by kernel_rfl) (by kernel_rfl) (by kernel_rfl) (fun _ _ _ h => h) (Or.inl ⟨by rfl, ?_⟩) (by assumption) ?_
                rotate_left
                · intro w9 hSw; (try dsimp only at hSw); go_simp; (first | done | with_reducible rfl)
                (try simp only [List.getElem_toArray, List.getElem_cons_succ, List.getElem_cons_zero, Act.put, List.setIfInBounds_toArray, List.set_cons_zero, List.set_cons_succ])
                refine wpAnyH_ready (rs := [22]) (by kernel_rfl) (by simp) ?_
                refine AllReadyH.cons rfl (fun K hK => ?_) AllReadyH.nil
                go_simp
                refine (likeInts_c _ _ s s _ (rowC.vext HVf.out hHeld.2.2.2.2.2.2) (rowC.vext HVk.out hHeld.2.2.2.2.2.2)).mono ?_
                rw [decide_eq_true rfl]
                rintro e wy2 ⟨rfl, hEy⟩
                (try go_wp2_with fail)
                refine hK.out _ _ ?_ (fun hHeld2 => ?_)
                · (try dsimp only); (obtain ⟨s0, s1, s2, s3, s4, s5, s6⟩ := hHeld; exact ⟨cell_ext s0 hEy, cell_ext s1 hEy, cell_ext s2 hEy, cell_ext s3 hEy, cell_ext s4 hEy, cell_ext s5 hEy, s6.trans hEy⟩)
                clear hK K hHeld
                rename _ => hHeld
                (try simp only [List.getElem_toArray, List.getElem_cons_succ, List.getElem_cons_zero, Act.put, List.setIfInBounds_toArray, List.set_cons_zero, List.set_cons_succ])
                refine wpAnyH_take (i := 23) (v := ?_) rfl (by kernel_rfl) (by kernel_rfl) (by kernel_rfl) (fun _ _ _ h => h) (Or.inl ⟨by rfl, ?_⟩) (by assumption) ?_
                rotate_left
                · intro w9 hSw; (try dsimp only at hSw); go_simp; (first | done | with_reducible rfl)
                (try simp only [List.getElem_toArray, List.getElem_cons_succ, List.getElem_cons_zero, Act.put, List.setIfInBounds_toArray, List.set_cons_zero, List.set_cons_succ])
                refine wpAnyH_take (i := 24) (v := ?_) rfl (by kernel_rfl) (by kernel_rfl) (by kernel_rfl) (fun _ _ _ h => h) (Or.inl ⟨by rfl, ?_⟩) (by assumption) ?_
                rotate_left
                · intro w9 hSw; (try dsimp only at hSw); go_simp; (first | done | with_reducible rfl)
                (try simp only [List.getElem_toArray, List.getElem_cons_succ, List.getElem_cons_zero, Act.put, List.setIfInBounds_toArray, List.set_cons_zero, List.set_cons_succ])
                refine wpAnyH_take (i := 25) (v := ?_) rfl (by kernel_rfl) (by kernel_rfl) (by kernel_rfl) (fun _ _ _ h => h) (Or.inl ⟨by rfl, ?_⟩) (by assumption) ?_
                rotate_left
                · intro w9 hSw; (try dsimp only at hSw); go_simp; (first | done | with_reducible rfl)
                (try simp only [List.getElem_toArray, List.getElem_cons_succ, List.getElem_cons_zero, Act.put, List.setIfInBounds_toArray, List.set_cons_zero, List.set_cons_succ])
                refine wpAnyH_done (by kernel_rfl) ?_ _
                have HE := Lib.hid hHeld.2.2.2.2.2.2
                clear hHeld
                go_wp2
                go_roundw
                case rel => exact ⟨k + 1, by go_num, by omega, Lib.hid (HI.out.trans HE.out)⟩
                case measure => simp [intOf]; omega
              · have e1 : decide ((c : Int) = 0) = false := by rw [decide_eq_false_iff_not]; omega
                have e2 : ((c : Int) == 0) = false := by rw [beq_eq_false_iff_ne]; omega
                have e3 : decide (c = 0) = false := by rw [decide_eq_false_iff_not]; omega
                have e4 : (c == 0) = false := by rw [beq_eq_false_iff_ne]; omega
                clear hc0
                refine wp_region_held_drew (S := fun ω => ω.cell? ⟨b5, 0, none⟩ = some (.slice (some ⟨xb, xo, none⟩) dx.1.length xc) ∧ ω.cell? ⟨xb, xo + k, none⟩ = some (.slice ra r.length rc) ∧ Ext wb ω) (by kernel_rfl) ?_ (fun hHeld => ?_)
                · (try dsimp only); exact ⟨cHX50, cx, Ext.drew _⟩
                refine wpAnyH_take (i := 0) (v := ?_) rfl (by kernel_rfl) (by kernel_rfl) (by kernel_rfl) (fun _ _ _ h => h) (Or.inl ⟨by rfl, ?_⟩) (by assumption) ?_
                rotate_left
                · intro w9 hSw; (try dsimp only at hSw); go_simp; (first | done | with_reducible rfl)
                (try simp only [List.getElem_toArray, List.getElem_cons_succ, List.getElem_cons_zero, Act.put, List.setIfInBounds_toArray, List.set_cons_zero, List.set_cons_succ])
                refine wpAnyH_take (i := 1) (v := ?_) rfl (by kernel_rfl) (by kernel_rfl) (by kernel_rfl) (fun _ _ _ h => h) (Or.inl ⟨by rfl, ?_⟩) (by assumption) ?_
                rotate_left
                · intro w9 hSw; (try dsimp only at hSw); go_simp; (first | done | with_reducible rfl)
                (try simp only [List.getElem_toArray, List.getElem_cons_succ, List.getElem_cons_zero, Act.put, List.setIfInBounds_toArray, List.set_cons_zero, List.set_cons_succ])
                refine wpAnyH_take (i := 2) (v := ?_) rfl (by kernel_rfl) (by kernel_rfl) (by kernel_rfl) (fun _ _ _ h => h) (Or.inl ⟨by rfl, ?_⟩) (by assumption) ?_
                rotate_left
                · intro w9 hSw; (try dsimp only at hSw); go_simp; (first | done | with_reducible rfl)
                (try simp only [List.getElem_toArray, List.getElem_cons_succ, List.getElem_cons_zero, Act.put, List.setIfInBounds_toArray, List.set_cons_zero, List.set_cons_succ])
                refine wpAnyH_take (i := 3) (v := ?_) rfl (by kernel_rfl) (by kernel_rfl) (by kernel_rfl) (fun _ _ _ h => h) (Or.inl ⟨by rfl, ?_⟩) (by assumption) ?_
                rotate_left
                · intro w9 hSw; (try dsimp only at hSw); go_simp; (first | done | with_reducible rfl)
                (try simp only [List.getElem_toArray, List.getElem_cons_succ, List.getElem_cons_zero, Act.put, List.setIfInBounds_toArray, List.set_cons_zero, List.set_cons_succ])
                refine wpAnyH_take (i := 4) (v := ?_) rfl (by kernel_rfl) (by kernel_rfl) (by kernel_rfl) (fun _ _ _ h => h) (Or.inl ⟨by rfl, ?_⟩) (by assumption) ?_
                rotate_left
                · intro w9 hSw; (try dsimp only at hSw); go_simp; (first | done | with_reducible rfl)
                (try simp only [List.getElem_toArray, List.getElem_cons_succ, List.getElem_cons_zero, Act.put, List.setIfInBounds_toArray, List.set_cons_zero, List.set_cons_succ])
                refine wpAnyH_take (i := 5) (v := ?_) rfl (by kernel_rfl) (by kernel_rfl) (by kernel_rfl) (fun _ _ _ h => h) (Or.inl ⟨by rfl, ?_⟩) (by assumption) ?_
                rotate_left
                · intro w9 hSw; (try dsimp only at hSw); go_simp; (first | done | with_reducible rfl)
                (try simp only [List.getElem_toArray, List.getElem_cons_succ, List.getElem_cons_zero, Act.put, List.setIfInBounds_toArray, List.set_cons_zero, List.set_cons_succ])
                refine wpAnyH_ready (rs := [6]) (by kernel_rfl) (by simp) ?_
                refine AllReadyH.cons rfl (fun K hK => ?_) AllReadyH.nil
                go_simp
                refine (likeInts_c _ _ r r _ (rowC.vext HVx.out.2 hHeld.2.2) (rowC.vext HR.out hHeld.2.2)).mono ?_
                rw [decide_eq_true rfl]
                rintro e wz ⟨rfl, hEz⟩
                (try go_wp2_with fail)
                refine hK.out _ _ ?_ (fun hHeld2 => ?_)
                · (try dsimp only); (obtain ⟨s0, s1, s2⟩ := hHeld; exact ⟨cell_ext s0 hEz, cell_ext s1 hEz, s2.trans hEz⟩)
                clear hK K hHeld
                rename _ => hHeld
                (try simp only [List.getElem_toArray, List.getElem_cons_succ, List.getElem_cons_zero, Act.put, List.setIfInBounds_toArray, List.set_cons_zero, List.set_cons_succ])
                refine wpAnyH_take (i := 7) (v := ?_) rfl (by kernel_rfl) (by kernel_rfl) (by kernel_rfl) (fun _ _ _ h => h) (Or.inl ⟨by rfl, ?_⟩) (by assumption) ?_
                rotate_left
                · intro w9 hSw; (try dsimp only at hSw); go_simp; (first | done | with_reducible rfl)
                (try simp only [List.getElem_toArray, List.getElem_cons_succ, List.getElem_cons_zero, Act.put, List.setIfInBounds_toArray, List.set_cons_zero, List.set_cons_succ])
                refine wpAnyH_take (i := 8) (v := ?_) rfl (by kernel_rfl) (by kernel_rfl) (by kernel_rfl) (fun _ _ _ h => h) (Or.inl ⟨by rfl, ?_⟩) (by assumption) ?_
                rotate_left
                · intro w9 hSw; (try dsimp only at hSw); go_simp; (first | done | with_reducible rfl)
                (try simp only [List.getElem_toArray, List.getElem_cons_succ, List.getElem_cons_zero, Act.put, List.setIfInBounds_toArray, List.set_cons_zero, List.set_cons_succ])
                refine wpAnyH_take (i := 9) (v := ?_) rfl (by kernel_rfl) (by kernel_rfl) (by kernel_rfl) (fun _ _ _ h => h) (Or.inl ⟨by rfl, ?_⟩) (by assumption) ?_
                rotate_left
                · intro w9 hSw; (try dsimp only at hSw); go_simp; (first | done | with_reducible rfl)
                (try simp only [List.getElem_toArray, List.getElem_cons_succ, List.getElem_cons_zero, Act.put, List.setIfInBounds_toArray, List.set_cons_zero, List.set_cons_succ])
                refine wpAnyH_take (i := 10) (v := ?_) rfl (by kernel_rfl) (by kernel_rfl) (by kernel_rfl) (fun _ _ _ h => h) (Or.inl ⟨by rfl, ?_⟩) (by assumption) ?_
                rotate_left
                · intro w9 hSw; (try dsimp only at hSw); go_simp; (first | done | with_reducible rfl)
                (try simp only [List.getElem_toArray, List.getElem_cons_succ, List.getElem_cons_zero, Act.put, List.setIfInBounds_toArray, List.set_cons_zero, List.set_cons_succ])
                refine wpAnyH_take (i := 11) (v := ?_) rfl (by kernel_rfl) (by kernel_rfl) (by kernel_rfl) (fun _ _ _ h => h) (Or.inl ⟨by rfl, ?_⟩) (by assumption) ?_
                rotate_left
                · intro w9 hSw; (try dsimp only at hSw); go_simp; (first | done | with_reducible rfl)
                (try simp only [List.getElem_toArray, List.getElem_cons_succ, List.getElem_cons_zero, Act.put, List.setIfInBounds_toArray, List.set_cons_zero, List.set_cons_succ])
                refine wpAnyH_take (i := 12) (v := undef) rfl (by kernel_rfl) (by kernel_rfl) (by kernel_rfl) (fun _ _ _ h => h) (Or.inr ⟨by rfl, rfl⟩) (by assumption) ?_
                (try simp only [List.getElem_toArray, List.getElem_cons_succ, List.getElem_cons_zero, Act.put, List.setIfInBounds_toArray, List.set_cons_zero, List.set_cons_succ])
                refine wpAnyH_take (i := 13) (v := undef) rfl (by kernel_rfl) (by kernel_rfl) (by kernel_rfl) (fun _ _ _ h => h) (Or.inr ⟨by rfl, rfl⟩) (by assumption) ?_
                (try simp only [List.getElem_toArray, List.getElem_cons_succ, List.getElem_cons_zero, Act.put, List.setIfInBounds_toArray, List.set_cons_zero, List.set_cons_succ])
                refine wpAnyH_take (i := 14) (v := undef) rfl (by kernel_rfl) (by kernel_rfl) (by kernel_rfl) (fun _ _ _ h => h) (Or.inr ⟨by rfl, rfl⟩) (by assumption) ?_
                (try simp only [List.getElem_toArray, List.getElem_cons_succ, List.getElem_cons_zero, Act.put, List.setIfInBounds_toArray, List.set_cons_zero, List.set_cons_succ])
                refine wpAnyH_take (i := 15) (v := undef) rfl (by kernel_rfl) (by kernel_rfl) (by kernel_rfl) (fun _ _ _ h => h) (Or.inr ⟨by rfl, rfl⟩) (by assumption) ?_
                (try simp only [List.getElem_toArray, List.getElem_cons_succ, List.getElem_cons_zero, Act.put, List.setIfInBounds_toArray, List.set_cons_zero, List.set_cons_succ])
                refine wpAnyH_take (i := 16) (v := undef) rfl (by kernel_rfl) (by kernel_rfl) (by kernel_rfl) (fun _ _ _ h => h) (Or.inr ⟨by rfl, rfl⟩) (by assumption) ?_
                (try simp only [List.getElem_toArray, List.getElem_cons_succ, List.getElem_cons_zero, Act.put, List.setIfInBounds_toArray, List.set_cons_zero, List.set_cons_succ])
                refine wpAnyH_take (i := 17) (v := undef) rfl (by kernel_rfl) (by kernel_rfl) (by kernel_rfl) (fun _ _ _ h => h) (Or.inr ⟨by rfl, rfl⟩) (by assumption) ?_
                (try simp only [List.getElem_toArray, List.getElem_cons_succ, List.getElem_cons_zero, Act.put, List.setIfInBounds_toArray, List.set_cons_zero, List.set_cons_succ])
                refine wpAnyH_take (i := 18) (v := undef) rfl (by kernel_rfl) (by kernel_rfl) (by kernel_rfl) (fun _ _ _ h => h) (Or.inr ⟨by rfl, rfl⟩) (by assumption) ?_
                (try simp only [List.getElem_toArray, List.getElem_cons_succ, List.getElem_cons_zero, Act.put, List.setIfInBounds_toArray, List.set_cons_zero, List.set_cons_succ])
                refine wpAnyH_take (i := 19) (v := undef) rfl (by kernel_rfl) (by kernel_rfl) (by kernel_rfl) (fun _ _ _ h => h) (Or.inr ⟨by rfl, rfl⟩) (by assumption) ?_
                (try simp only [List.getElem_toArray, List.getElem_cons_succ, List.getElem_cons_zero, Act.put, List.setIfInBounds_toArray, List.set_cons_zero, List.set_cons_succ])
                refine wpAnyH_take (i := 20) (v := undef) rfl (by kernel_rfl) (by kernel_rfl) (by kernel_rfl) (fun _ _ _ h => h) (Or.inr ⟨by rfl, rfl⟩) (by assumption) ?_
                (try simp only [List.getElem_toArray, List.getElem_cons_succ, List.getElem_cons_zero, Act.put, List.setIfInBounds_toArray, List.set_cons_zero, List.set_cons_succ])
                refine wpAnyH_take (i := 21) (v := undef) rfl (by kernel_rfl) (by kernel_rfl) (by kernel_rfl) (fun _ _ _ h => h) (Or.inr ⟨by rfl, rfl⟩) (by assumption) ?_
                (try simp only [List.getElem_toArray, List.getElem_cons_succ, List.getElem_cons_zero, Act.put, List.setIfInBounds_toArray, List.set_cons_zero, List.set_cons_succ])
                refine wpAnyH_take (i := 22) (v := undef) rfl (by kernel_rfl) (by kernel_rfl) (by kernel_rfl) (fun _ _ _ h => h) (Or.inr ⟨by rfl, rfl⟩) (by assumption) ?_
                (try simp only [List.getElem_toArray, List.getElem_cons_succ, List.getElem_cons_zero, Act.put, List.setIfInBounds_toArray, List.set_cons_zero, List.set_cons_succ])
                refine wpAnyH_take (i := 23) (v := undef) rfl (by kernel_rfl) (by kernel_rfl) (by kernel_rfl) (fun _ _ _ h => h) (Or.inr ⟨by rfl, rfl⟩) (by assumption) ?_
                (try simp only [List.getElem_toArray, List.getElem_cons_succ, List.getElem_cons_zero, Act.put, List.setIfInBounds_toArray, List.set_cons_zero, List.set_cons_succ])
                refine wpAnyH_take (i := 24) (v := ?_) rfl (by kernel_rfl) (by kernel_rfl) (by kernel_rfl) (fun _ _ _ h => h) (Or.inl ⟨by rfl, ?_⟩) (by assumption) ?_
                rotate_left
                · intro w9 hSw; (try dsimp only at hSw); go_simp; (first | done | with_reducible rfl)
                (try simp only [List.getElem_toArray, List.getElem_cons_succ, List.getElem_cons_zero, Act.put, List.setIfInBounds_toArray, List.set_cons_zero, List.set_cons_succ])
                refine wpAnyH_take (i := 25) (v := ?_) rfl (by kernel_rfl) (by kernel_rfl) (by kernel_rfl) (fun _ _ _ h => h) (Or.inl ⟨by rfl, ?_⟩) (by assumption) ?_
                rotate_left
                · intro w9 hSw; (try dsimp only at hSw); go_simp; (first | done | with_reducible rfl)
                (try simp only [List.getElem_toArray, List.getElem_cons_succ, List.getElem_cons_zero, Act.put, List.setIfInBounds_toArray, List.set_cons_zero, List.set_cons_succ])
                refine wpAnyH_done (by kernel_rfl) ?_ _
                have HE := Lib.hid hHeld.2.2
                clear hHeld
                go_wp2
                go_roundw
                case rel => exact ⟨k + 1, by go_num, by omega, Lib.hid (HI.out.trans HE.out)⟩
                case measure => simp [intOf]; omega
        · have hd : decide ((k : Int) < (d.1.length : Int)) = false := by rw [decide_eq_false_iff_not]; omega
          go_wp2_with fail
          refine (implWrote_c _ df 0 _ [7, 8] _ (HX6.out.grow (Ext.alloc wq (.cells #[.int .i64 7, .int .i64 8] 2))).view (row_bx2 (Bx.new _ _ _ _ rfl))).mono ?_
          rw [wrote78 HOF.out H2F.out]
          rintro e w10 ⟨u9, v9, rfl, X9, O9⟩
          obtain ⟨⟨xa3, xc3, rfl⟩, ya3, yc3, rfl⟩ := disk_form O9
          (try simp only [List.length_cons, List.length_nil, Nat.zero_add] at O9 ⊢)
          have HX7 := Lib.hid (DM.new O9.view 25)
          replace HX := Lib.hid (HX.out.trans (((Ext.alloc wq (.cells #[.int .i64 7, .int .i64 8] 2)).trans X9).trans (Ext.alloc w10 (.cells #[.slice xa3 df.1.length xc3, .slice ya3 1 yc3] 25))))
          clear X9 O9 cHD0 cHD1 cHX50 cHX51 cHX60 cHX61
          go_upto_region 23 with fail
          generalize w10.alloc (.cells #[.slice xa3 df.1.length xc3, .slice ya3 1 yc3] 25) = wz at *
          generalize w10.heap.size = b7 at *
          have cHX70 := HX7.out.box.cell 0 _ rfl; have cHX71 := HX7.out.box.cell 1 _ rfl
          go_wp2_with fail
          refine (implReadAt_c _ (df.1, [(0, [7, 8])]) 0 _ HX7.out.view).mono ?_
          rw [read78 HOF.out H2F.out]
          rintro e wa ⟨v8, rfl, X9, O9⟩
          obtain ⟨va, vc, rfl⟩ := sl_form O9.view
          have HR := Lib.hid O9.view
          replace HX := Lib.hid (HX.out.trans X9)
          clear X9 O9 cHX70 cHX71
          go_wp2_with fail
          refine (likeInts_c _ _ [7, 8] [7, 8] _ (rowC.vext HR.out (Ext.alloc wa (.cells #[.int .i64 7, .int .i64 8] 2))) (row_bx2 (Bx.new _ _ _ _ rfl))).mono ?_
          rw [decide_eq_true rfl]
          rintro e wz2 ⟨rfl, X9⟩
          replace HX := Lib.hid (HX.out.trans ((Ext.alloc wa (.cells #[.int .i64 7, .int .i64 8] 2)).trans X9))
          clear X9
          go_wp2
          go_ret
          exact ⟨rfl, HX.out⟩

set_option maxRecDepth 100000 in
theorem fallendisk_holds : Rows.FnFallenDiskSaid :=
  OpenClaim.holds_of_wide 12 Try.f12 rfl rfl rfl rfl rfl rfl rfl ⟨rfl, rfl, rfl, rfl, rfl⟩ rfl rfl rfl rfl rfl (by kernel_rfl) Try.func12 (by kernel_rfl)
    (of_decide_eq_true (by kernel_rfl)) (by unfold Func.isWrapper; rw [if_neg (of_decide_eq_false (by kernel_rfl))]; exact ⟨rfl, rfl⟩)
    (fun os started H enc _ => law_lifted (C := Try.checked) (f := 12) (fn := Try.f12) (s := Rows.fnFallenDiskSpec) (tb := 4) Try.own started (by kernel_rfl) Try.func12 Try.laidOut (of_decide_eq_true (by kernel_rfl)) rfl Try.underlying4 rfl
      (fun ds h => by match ds, h with | [_], _ => exact ⟨rfl, rfl, rfl⟩)
      (ChangeSpec.witness6 (enc := enc) (C := Try.checked) false ⟨#[], #[.slice none 0 0], []⟩ 8 (by kernel_rfl) (by kernel_rfl) (by kernel_rfl) (by kernel_rfl))
      fallendisk_c)

end Go.Proofs.Ytfakjcckgcgalaa
