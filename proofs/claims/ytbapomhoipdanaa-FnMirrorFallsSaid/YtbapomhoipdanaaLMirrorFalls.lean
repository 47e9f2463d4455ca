/- The law FnMirrorFalls is true for every input: it returns true, and what it was given reads as before. -/
import Derived.Test.YtbapomhoipdanaaCod
import Derived.Test.YtbapomhoipdanaaTm
import Derived.Test.YtbapomhoipdanaaTw
import Derived.Test.YtbapomhoipdanaaTw4
import Derived.Test.YtbapomhoipdanaaBf2
import Derived.Test.YtbapomhoipdanaaW5
import Derived.Deep.DeepCutAuto
set_option linter.unusedVariables false
set_option linter.unusedSimpArgs false
namespace Go.Proofs.Ytbapomhoipdanaa
open Go.RowKit Go.Sl

set_option maxHeartbeats 16000000 in
set_option maxRecDepth 100000 in
theorem mirrorfalls_c (W : World) (args : Array Value) (hs : args.size = 1) (h : ∀ (j : Nat) t v, Try.f9.params[j]? = some t → args[j]? = some v → ArgOk Try.prog W t v) :
    Calls Try.prog 9 args W fun e W' => e = .returned (.bool true) ∧ Ext W W' := by
  match args, hs with
  | ⟨[a0]⟩, _ =>
    obtain ⟨ca, n, cc, rfl, hn1, hn2, HC⟩ := arg_code (h 0 _ a0 rfl rfl)
    clear h
    by_cases hbig : n ≤ 4096
    rotate_left
    · have hb : decide ((4096 : Int) < n) = true := by rw [decide_eq_true_iff]; omega
      have Hb := Lib.hid hb; clear hb
      go_enter Try.func9, Try.ntmps9
      go_wp2_with (go_at_call 34; refine (big_c _ _ _ _).mono ?_; rw [Hb.out]; rintro e w' ⟨rfl, rfl⟩)
      go_ret
      exact ⟨rfl, Ext.refl _⟩
    have hb : decide ((4096 : Int) < n) = false := by rw [decide_eq_false_iff_not]; omega
    have Hb := Lib.hid hb; clear hb
    go_enter Try.func9, Try.ntmps9
    go_wp2_with fail
    refine (big_c _ _ _ _).mono ?_
    rw [Hb.out]
    rintro e w' ⟨rfl, rfl⟩
    go_wp2_with fail
    refine (drawBothFallen_c n cc ca _ (by omega) HC.out).mono ?_
    rintro e w1 ⟨u0, v0, u1, v1, t, fv, fates, rfl, hfl, hV, hF, X1⟩
    obtain ⟨⟨pa, pc, rfl⟩, ⟨qa, qc, rfl⟩, ⟨ra, rc, rfl⟩, sa, sc, rfl⟩ := two_formV hV
    obtain ⟨fa, fc, rfl⟩ := sl_form hF
    have HT := Lib.hid (TM.new hV 34)
    have HX := Lib.hid (X1.trans (Ext.alloc w1 (.cells #[.slice pa t.1.1.length pc, .slice qa t.1.2.length qc, .slice ra t.2.1.length rc, .slice sa t.2.2.length sc] 34)))
    have HR := Lib.hid (rowC.vext hF (Ext.alloc w1 (.cells #[.slice pa t.1.1.length pc, .slice qa t.1.2.length qc, .slice ra t.2.1.length rc, .slice sa t.2.2.length sc] 34)))
    clear hV hF X1
    go_upto_region 4 with fail
    generalize (w1.alloc (.cells #[.slice pa t.1.1.length pc, .slice qa t.1.2.length qc, .slice ra t.2.1.length rc, .slice sa t.2.2.length sc] 34)) = w0 at *
    generalize w1.heap.size = b3 at *
    have cHT0 := HT.out.box.cell 0 _ rfl; have cHT1 := HT.out.box.cell 1 _ rfl; have cHT2 := HT.out.box.cell 2 _ rfl; have cHT3 := HT.out.box.cell 3 _ rfl
    cases hok : twoOk t
    · have Hok := Lib.hid hok
      clear hok
      go_wp2_with fail
      refine (implBothFallen_c _ t _ fates _ HT.out.view HR.out (by omega)).mono ?_
      rw [fallen_no2 Hok.out]
      generalize hf0 : noTwo = f
      have Hf0 : Hid (f.1.1.length = 0) := Lib.hid (by rw [← hf0]; rfl)
      clear hf0
      rintro e w5 ⟨u9, v9, u8, v8, rfl, X9, O9⟩
      obtain ⟨⟨pa5, pc5, rfl⟩, ⟨qa5, qc5, rfl⟩, ⟨ra5, rc5, rfl⟩, sa5, sc5, rfl⟩ := two_formV O9.view
      have HF := Lib.hid (TM.new O9.view 34)
      replace HT := Lib.hid (HT.out.grow (X9.trans (Ext.alloc w5 (.cells #[.slice pa5 f.1.1.length pc5, .slice qa5 f.1.2.length qc5, .slice ra5 f.2.1.length rc5, .slice sa5 f.2.2.length sc5] 34))))
      replace HX := Lib.hid (HX.out.trans (X9.trans (Ext.alloc w5 (.cells #[.slice pa5 f.1.1.length pc5, .slice qa5 f.1.2.length qc5, .slice ra5 f.2.1.length rc5, .slice sa5 f.2.2.length sc5] 34))))
      clear X9 O9 HR cHT0 cHT1 cHT2 cHT3
      go_upto_region 5 with fail
      generalize (w5.alloc (.cells #[.slice pa5 f.1.1.length pc5, .slice qa5 f.1.2.length qc5, .slice ra5 f.2.1.length rc5, .slice sa5 f.2.2.length sc5] 34)) = wy at *
      generalize w5.heap.size = b5 at *
      have cHT0 := HT.out.box.cell 0 _ rfl; have cHT1 := HT.out.box.cell 1 _ rfl; have cHT2 := HT.out.box.cell 2 _ rfl; have cHT3 := HT.out.box.cell 3 _ rfl
      have cHF0 := HF.out.box.cell 0 _ rfl; have cHF1 := HF.out.box.cell 1 _ rfl; have cHF2 := HF.out.box.cell 2 _ rfl; have cHF3 := HF.out.box.cell 3 _ rfl
      go_wp2_with fail
      refine (specTwoOk_c _ t _ HT.out.view).mono ?_
      rw [Hok.out]
      rintro e w8 ⟨rfl, X9⟩
      clear cHT0 cHT1 cHT2 cHT3 cHF0 cHF1 cHF2 cHF3
      replace HT := Lib.hid (HT.out.grow X9)
      replace HF := Lib.hid (HF.out.grow X9)
      replace HX := Lib.hid (HX.out.trans X9)
      clear X9
      have cHT0 := HT.out.box.cell 0 _ rfl; have cHT1 := HT.out.box.cell 1 _ rfl; have cHT2 := HT.out.box.cell 2 _ rfl; have cHT3 := HT.out.box.cell 3 _ rfl
      have cHF0 := HF.out.box.cell 0 _ rfl; have cHF1 := HF.out.box.cell 1 _ rfl; have cHF2 := HF.out.box.cell 2 _ rfl; have cHF3 := HF.out.box.cell 3 _ rfl
      have hz1 : decide ((f.1.1.length : Int) = 0) = true := by rw [decide_eq_true_iff, Hf0.out]; rfl
      have hz2 : ((f.1.1.length : Int) == 0) = true := by rw [beq_iff_eq, Hf0.out]; rfl
      have hz3 : decide (f.1.1.length = 0) = true := by rw [decide_eq_true_iff, Hf0.out]
      have hz4 : (f.1.1.length == 0) = true := by rw [beq_iff_eq, Hf0.out]
      go_wp2
      go_ret
      exact ⟨rfl, HX.out⟩
    · have Hok := Lib.hid hok
      clear hok
      go_wp2_with fail
      refine (implBothFallen_c _ t _ fates _ HT.out.view HR.out (by omega)).mono ?_
      have HOF := Lib.hid (twoOk_fallen Hok.out fates)
      have HGF : Hid (∀ k : Nat, k < t.1.1.length → (∀ x ∈ t.1.2, x.1 ≠ (k : Int)) → (∀ x ∈ t.2.2, x.1 ≠ (k : Int)) → rightAt (bothFallen t fates) k = rightAt t k) := Lib.hid (fun k h1 h2 h3 => rightAt_fallen Hok.out fates h1 h2 h3)
      generalize bothFallen t fates = f at *
      rintro e w5 ⟨u9, v9, u8, v8, rfl, X9, O9⟩
      obtain ⟨⟨pa5, pc5, rfl⟩, ⟨qa5, qc5, rfl⟩, ⟨ra5, rc5, rfl⟩, sa5, sc5, rfl⟩ := two_formV O9.view
      have HF := Lib.hid (TM.new O9.view 34)
      replace HT := Lib.hid (HT.out.grow (X9.trans (Ext.alloc w5 (.cells #[.slice pa5 f.1.1.length pc5, .slice qa5 f.1.2.length qc5, .slice ra5 f.2.1.length rc5, .slice sa5 f.2.2.length sc5] 34))))
      replace HX := Lib.hid (HX.out.trans (X9.trans (Ext.alloc w5 (.cells #[.slice pa5 f.1.1.length pc5, .slice qa5 f.1.2.length qc5, .slice ra5 f.2.1.length rc5, .slice sa5 f.2.2.length sc5] 34))))
      clear X9 O9 HR cHT0 cHT1 cHT2 cHT3
      go_upto_region 5 with fail
      generalize (w5.alloc (.cells #[.slice pa5 f.1.1.length pc5, .slice qa5 f.1.2.length qc5, .slice ra5 f.2.1.length rc5, .slice sa5 f.2.2.length sc5] 34)) = wy at *
      generalize w5.heap.size = b5 at *
      have cHT0 := HT.out.box.cell 0 _ rfl; have cHT1 := HT.out.box.cell 1 _ rfl; have cHT2 := HT.out.box.cell 2 _ rfl; have cHT3 := HT.out.box.cell 3 _ rfl
      have cHF0 := HF.out.box.cell 0 _ rfl; have cHF1 := HF.out.box.cell 1 _ rfl; have cHF2 := HF.out.box.cell 2 _ rfl; have cHF3 := HF.out.box.cell 3 _ rfl
      go_wp2_with fail
      refine (specTwoOk_c _ t _ HT.out.view).mono ?_
      rw [Hok.out]
      rintro e w8 ⟨rfl, X9⟩
      clear cHT0 cHT1 cHT2 cHT3 cHF0 cHF1 cHF2 cHF3
      replace HT := Lib.hid (HT.out.grow X9)
      replace HF := Lib.hid (HF.out.grow X9)
      replace HX := Lib.hid (HX.out.trans X9)
      clear X9
      have cHT0 := HT.out.box.cell 0 _ rfl; have cHT1 := HT.out.box.cell 1 _ rfl; have cHT2 := HT.out.box.cell 2 _ rfl; have cHT3 := HT.out.box.cell 3 _ rfl
      have cHF0 := HF.out.box.cell 0 _ rfl; have cHF1 := HF.out.box.cell 1 _ rfl; have cHF2 := HF.out.box.cell 2 _ rfl; have cHF3 := HF.out.box.cell 3 _ rfl
      go_wp2
      go_loopw [6] (fun v6 wr => ∃ (k : Nat), v6 = .int .i64 k ∧ k ≤ t.1.1.length ∧ Hid (Ext w8 wr)) (fun v6 _ => t.1.1.length - (intOf v6).toNat)
      case atStart => exact ⟨0, rfl, by omega, Lib.hid (by repeat (first | exact Ext.refl _ | refine Ext.pDrew ?_))⟩
      case round =>
        obtain ⟨k, rfl, hk, HI⟩ := hrel
        obtain ⟨wq, hwq⟩ : ∃ w, w = wr := ⟨_, rfl⟩
        subst hwq
        clear cHT0 cHT1 cHT2 cHT3 cHF0 cHF1 cHF2 cHF3
        replace HT := Lib.hid (HT.out.grow HI.out)
        replace HF := Lib.hid (HF.out.grow HI.out)
        replace HX := Lib.hid (HX.out.trans HI.out)
        have cHT0 := HT.out.box.cell 0 _ rfl; have cHT1 := HT.out.box.cell 1 _ rfl; have cHT2 := HT.out.box.cell 2 _ rfl; have cHT3 := HT.out.box.cell 3 _ rfl
        have cHF0 := HF.out.box.cell 0 _ rfl; have cHF1 := HF.out.box.cell 1 _ rfl; have cHF2 := HF.out.box.cell 2 _ rfl; have cHF3 := HF.out.box.cell 3 _ rfl
        by_cases hlt : k < t.1.1.length
        · have hd : decide ((k : Int) < (t.1.1.length : Int)) = true := by rw [decide_eq_true_iff]; omega
          have hlen : t.1.1.length ≤ 40 ∧ t.1.2.length ≤ 60 ∧ t.2.2.length ≤ 60 := by have := twoOk_len Hok.out; omega
          have hw1 : IntKind.i64.wrap ((k : Int) + 1) = k + 1 := IntWalk.i64_in _ (by omega)
          go_wp2
          go_loopw [7, 8] (fun v7 v8 wr => ∃ (j : Nat) (b : Bool), v8 = .int .i64 j ∧ v7 = .bool b ∧ j ≤ t.1.2.length ∧ Hid ((Wr t.1.2 j k b) ∧ Ext wq wr)) (fun _ v8 _ => t.1.2.length - (intOf v8).toNat)
          case atStart => exact ⟨0, false, rfl, rfl, by omega, Lib.hid ⟨Wr.start _ _ _, (by repeat (first | exact Ext.refl _ | refine Ext.pDrew ?_))⟩⟩
          case round =>
            obtain ⟨j, b, rfl, rfl, hj, HJ⟩ := hrel
            obtain ⟨wb0, hwb⟩ : ∃ w, w = wr := ⟨_, rfl⟩
            subst hwb
            replace HI := Lib.hid (HI.out.trans HJ.out.2)
            clear cHT0 cHT1 cHT2 cHT3 cHF0 cHF1 cHF2 cHF3
            replace HT := Lib.hid (HT.out.grow HJ.out.2)
            replace HF := Lib.hid (HF.out.grow HJ.out.2)
            replace HX := Lib.hid (HX.out.trans HJ.out.2)
            have cHT0 := HT.out.box.cell 0 _ rfl; have cHT1 := HT.out.box.cell 1 _ rfl; have cHT2 := HT.out.box.cell 2 _ rfl; have cHT3 := HT.out.box.cell 3 _ rfl
            have cHF0 := HF.out.box.cell 0 _ rfl; have cHF1 := HF.out.box.cell 1 _ rfl; have cHF2 := HF.out.box.cell 2 _ rfl; have cHF3 := HF.out.box.cell 3 _ rfl
            by_cases hjt : j < t.1.2.length
            · have hd2 : decide ((j : Int) < (t.1.2.length : Int)) = true := by rw [decide_eq_true_iff]; omega
              have hj1 : IntKind.i64.wrap ((j : Int) + 1) = j + 1 := IntWalk.i64_in _ (by omega)
              obtain ⟨tb, tq, x, rfl, Hx, ct⟩ := waitV (two_A HT.out.view) hjt
              have hi1 : (0 : Int) ≤ j := by omega
              have hi2 : (j : Int) < (t.1.2.length : Int) := by omega
              cases b
              · by_cases hxk : x.1 = k
                · have e1 : decide (x.1 = (k : Int)) = true := by rw [decide_eq_true_iff]; exact hxk
                  have e2 : (x.1 == (k : Int)) = true := by rw [beq_iff_eq]; exact hxk
                  clear hxk
                  go_wp2
                  go_roundw
                  case rel => exact ⟨j + 1, true, by go_num, by first | rfl | (simp; done), by omega, Lib.hid ⟨Wr.hit _ _ _, HJ.out.2.trans (by repeat (first | exact Ext.refl _ | refine Ext.pDrew ?_))⟩⟩
                  case measure => simp [intOf]; omega
                · have e1 : decide (x.1 = (k : Int)) = false := by rw [decide_eq_false_iff_not]; exact hxk
                  have e2 : (x.1 == (k : Int)) = false := by rw [beq_eq_false_iff_ne]; exact hxk
                  have HN := Lib.hid (HJ.out.1.miss Hx hxk)
                  clear hxk
                  go_wp2
                  go_roundw
                  case rel => exact ⟨j + 1, false, by go_num, by first | rfl | (simp; done), by omega, Lib.hid ⟨HN.out, HJ.out.2.trans (by repeat (first | exact Ext.refl _ | refine Ext.pDrew ?_))⟩⟩
                  case measure => simp [intOf]; omega
              · go_wp2
                go_roundw
                case rel => exact ⟨j + 1, true, by go_num, by first | rfl | (simp; done), by omega, Lib.hid ⟨Wr.hit _ _ _, HJ.out.2.trans (by repeat (first | exact Ext.refl _ | refine Ext.pDrew ?_))⟩⟩
                case measure => simp [intOf]; omega
            · have hd2 : decide ((j : Int) < (t.1.2.length : Int)) = false := by rw [decide_eq_false_iff_not]; omega
              have hjl : j = t.1.2.length := by omega
              have HN0 : Hid (b = false → ∀ x ∈ t.1.2, x.1 ≠ (k : Int)) := Lib.hid (fun h0 => by have h9 := HJ.out.1; rw [hjl, h0] at h9; exact h9.all)
              clear hjl
              go_wp2
              clear hd2 hjt hj HJ
              go_loopw [7, 9] (fun v7 v9 wr => ∃ (j : Nat) (b : Bool), v9 = .int .i64 j ∧ v7 = .bool b ∧ j ≤ t.2.2.length ∧ Hid (((b = false → ∀ x ∈ t.1.2, x.1 ≠ (k : Int)) ∧ Wr t.2.2 j k b) ∧ Ext wb0 wr)) (fun _ v9 _ => t.2.2.length - (intOf v9).toNat)
              case atStart => exact ⟨0, b, rfl, rfl, by omega, Lib.hid ⟨⟨HN0.out, Wr.start _ _ _⟩, (by repeat (first | exact Ext.refl _ | refine Ext.pDrew ?_))⟩⟩
              case round =>
                obtain ⟨j, b, rfl, rfl, hj, HJ⟩ := hrel
                obtain ⟨wb1, hwb⟩ : ∃ w, w = wr := ⟨_, rfl⟩
                subst hwb
                replace HI := Lib.hid (HI.out.trans HJ.out.2)
                clear cHT0 cHT1 cHT2 cHT3 cHF0 cHF1 cHF2 cHF3
                replace HT := Lib.hid (HT.out.grow HJ.out.2)
                replace HF := Lib.hid (HF.out.grow HJ.out.2)
                replace HX := Lib.hid (HX.out.trans HJ.out.2)
                have cHT0 := HT.out.box.cell 0 _ rfl; have cHT1 := HT.out.box.cell 1 _ rfl; have cHT2 := HT.out.box.cell 2 _ rfl; have cHT3 := HT.out.box.cell 3 _ rfl
                have cHF0 := HF.out.box.cell 0 _ rfl; have cHF1 := HF.out.box.cell 1 _ rfl; have cHF2 := HF.out.box.cell 2 _ rfl; have cHF3 := HF.out.box.cell 3 _ rfl
                by_cases hjt : j < t.2.2.length
                · have hd2 : decide ((j : Int) < (t.2.2.length : Int)) = true := by rw [decide_eq_true_iff]; omega
                  have hj1 : IntKind.i64.wrap ((j : Int) + 1) = j + 1 := IntWalk.i64_in _ (by omega)
                  obtain ⟨tb, tq, x, rfl, Hx, ct⟩ := waitV (two_B HT.out.view) hjt
                  have hi1 : (0 : Int) ≤ j := by omega
                  have hi2 : (j : Int) < (t.2.2.length : Int) := by omega
                  cases b
                  · by_cases hxk : x.1 = k
                    · have e1 : decide (x.1 = (k : Int)) = true := by rw [decide_eq_true_iff]; exact hxk
                      have e2 : (x.1 == (k : Int)) = true := by rw [beq_iff_eq]; exact hxk
                      clear hxk
                      go_wp2
                      go_roundw
                      case rel => exact ⟨j + 1, true, by go_num, by first | rfl | (simp; done), by omega, Lib.hid ⟨⟨(fun h => by cases h), Wr.hit _ _ _⟩, HJ.out.2.trans (by repeat (first | exact Ext.refl _ | refine Ext.pDrew ?_))⟩⟩
                      case measure => simp [intOf]; omega
                    · have e1 : decide (x.1 = (k : Int)) = false := by rw [decide_eq_false_iff_not]; exact hxk
                      have e2 : (x.1 == (k : Int)) = false := by rw [beq_eq_false_iff_ne]; exact hxk
                      have HN := Lib.hid (HJ.out.1.2.miss Hx hxk)
                      clear hxk
                      go_wp2
                      go_roundw
                      case rel => exact ⟨j + 1, false, by go_num, by first | rfl | (simp; done), by omega, Lib.hid ⟨⟨HJ.out.1.1, HN.out⟩, HJ.out.2.trans (by repeat (first | exact Ext.refl _ | refine Ext.pDrew ?_))⟩⟩
                      case measure => simp [intOf]; omega
                  · go_wp2
                    go_roundw
                    case rel => exact ⟨j + 1, true, by go_num, by first | rfl | (simp; done), by omega, Lib.hid ⟨⟨(fun h => by cases h), Wr.hit _ _ _⟩, HJ.out.2.trans (by repeat (first | exact Ext.refl _ | refine Ext.pDrew ?_))⟩⟩
                    case measure => simp [intOf]; omega
                · have hd2 : decide ((j : Int) < (t.2.2.length : Int)) = false := by rw [decide_eq_false_iff_not]; omega
                  have hjl : j = t.2.2.length := by omega
                  have HN : Hid (b = false → rightAt f k = rightAt t k) := Lib.hid (fun h0 => by
                    have h9 := HJ.out.1.2
                    rw [hjl, h0] at h9
                    exact HGF.out k hlt (HJ.out.1.1 h0) h9.all)
                  clear hjl
                  go_upto_region 19 with fail
                  cases b
                  · refine wp_region_held_drew (S := fun ω => ω.cell? ⟨b3, 0, none⟩ = some (.slice pa t.1.1.length pc) ∧ ω.cell? ⟨b3, 1, none⟩ = some (.slice qa t.1.2.length qc) ∧ ω.cell? ⟨b3, 2, none⟩ = some (.slice ra t.2.1.length rc) ∧ ω.cell? ⟨b3, 3, none⟩ = some (.slice sa t.2.2.length sc) ∧ ω.cell? ⟨b5, 0, none⟩ = some (.slice pa5 f.1.1.length pc5) ∧ ω.cell? ⟨b5, 1, none⟩ = some (.slice qa5 f.1.2.length qc5) ∧ ω.cell? ⟨b5, 2, none⟩ = some (.slice ra5 f.2.1.length rc5) ∧ ω.cell? ⟨b5, 3, none⟩ = some (.slice sa5 f.2.2.length sc5) ∧ Ext wb1 ω) (by kernel_rfl) ?_ (fun hHeld => ?_)
                    · (try dsimp only); exact ⟨cHT0, cHT1, cHT2, cHT3, cHF0, cHF1, cHF2, cHF3, Ext.drew _⟩
                    refine wpAnyH_take (i := 0) (v := ?_) rfl (by kernel_rfl) (by kernel_rfl) (by kernel_rfl) (fun _ _ _ h => h) (Or.inl ⟨by rfl, ?_⟩) (by assumption) ?_
                    rotate_left
                    · intro w9 hSw; (try dsimp only at hSw); go_simp; (first | done | with_reducible rfl)
                    (try simp only [List.getElem_toArray, List.getElem_cons_succ, List.getElem_cons_zero, Act.put, List.setIfInBounds_toArray, List.set_cons_zero, List.set_cons_succ])
                    refine wpAnyH_take (i := 1) (v := ?_) rfl (by kernel_rfl) (by kernel_rfl) (by kernel_rfl) (fun _ _ _ h => h) (Or.inl ⟨by rfl, ?_⟩) (by assumption) ?_
                    rotate_left
                    · intro w9 hSw; (try dsimp only at hSw); go_simp; (first | done | with_reducible rfl)
                    (try simp only [List.getElem_toArray, List.getElem_cons_succ, List.getElem_cons_zero, Act.put, List.setIfInBounds_toArray, List.set_cons_zero, List.set_cons_succ])
                    refine wpAnyH_take (i := 2) (v := ?_) rfl (by kernel_rfl) (by kernel_rfl) (by kernel_rfl) (fun _ _ _ h => h) (Or.inl ⟨by rfl, ?_⟩) (by assumption) ?_
                    rotate_left
                    · intro w9 hSw; (try dsimp only at hSw); go_simp; (first | done | with_reducible rfl)
                    (try simp only [List.getElem_toArray, List.getElem_cons_succ, List.getElem_cons_zero, Act.put, List.setIfInBounds_toArray, List.set_cons_zero, List.set_cons_succ])
                    refine wpAnyH_take (i := 3) (v := ?_) rfl (by kernel_rfl) (by kernel_rfl) (by kernel_rfl) (fun _ _ _ h => h) (Or.inl ⟨by rfl, ?_⟩) (by assumption) ?_
                    rotate_left
                    · intro w9 hSw; (try dsimp only at hSw); go_simp; (first | done | with_reducible rfl)
                    (try simp only [List.getElem_toArray, List.getElem_cons_succ, List.getElem_cons_zero, Act.put, List.setIfInBounds_toArray, List.set_cons_zero, List.set_cons_succ])
                    refine wpAnyH_take (i := 4) (v := ?_) rfl (by kernel_rfl) (by kernel_rfl) (by kernel_rfl) (fun _ _ _ h => h) (Or.inl ⟨by rfl, ?_⟩) (by assumption) ?_
                    rotate_left
                    · intro w9 hSw; (try dsimp only at hSw); go_simp; (first | done | with_reducible rfl)
                    (try simp only [List.getElem_toArray, List.getElem_cons_succ, List.getElem_cons_zero, Act.put, List.setIfInBounds_toArray, List.set_cons_zero, List.set_cons_succ])
                    refine wpAnyH_take (i := 6) (v := ?_) rfl (by kernel_rfl) (by kernel_rfl) (by kernel_rfl) (fun _ _ _ h => h) (Or.inl ⟨by rfl, ?_⟩) (by assumption) ?_
                    rotate_left
                    · intro w9 hSw; (try dsimp only at hSw); go_simp; (first | done | with_reducible rfl)
                    (try simp only [List.getElem_toArray, List.getElem_cons_succ, List.getElem_cons_zero, Act.put, List.setIfInBounds_toArray, List.set_cons_zero, List.set_cons_succ])
                    refine wpAnyH_take (i := 7) (v := ?_) rfl (by kernel_rfl) (by kernel_rfl) (by kernel_rfl) (fun _ _ _ h => h) (Or.inl ⟨by rfl, ?_⟩) (by assumption) ?_
                    rotate_left
                    · intro w9 hSw; (try dsimp only at hSw); go_simp; (first | done | with_reducible rfl)
                    (try simp only [List.getElem_toArray, List.getElem_cons_succ, List.getElem_cons_zero, Act.put, List.setIfInBounds_toArray, List.set_cons_zero, List.set_cons_succ])
                    refine wpAnyH_ready (rs := [5]) (by kernel_rfl) (by simp) ?_
                    refine AllReadyH.cons rfl (fun K hK => ?_) AllReadyH.nil
                    go_simp
                    have HE0 := Lib.hid hHeld.2.2.2.2.2.2.2.2
                    refine (implRightAt_c _ f k _ (HF.out.grow HE0.out).view).mono ?_
                    rw [HN.out rfl]
                    rintro e wz1 ⟨v9, rfl, hEz, O9⟩
                    obtain ⟨xa, xc, rfl⟩ := sl_form O9.view
                    have HO := Lib.hid O9.view
                    clear O9
                    (try go_wp2_with fail)
                    refine hK.out _ _ ?_ (fun hHeld2 => ?_)
                    · (try dsimp only); (obtain ⟨s0, s1, s2, s3, s4, s5, s6, s7, s8⟩ := hHeld; exact ⟨cell_ext s0 hEz, cell_ext s1 hEz, cell_ext s2 hEz, cell_ext s3 hEz, cell_ext s4 hEz, cell_ext s5 hEz, cell_ext s6 hEz, cell_ext s7 hEz, s8.trans hEz⟩)
                    clear hK K hHeld
                    rename _ => hHeld
                    (try simp only [List.getElem_toArray, List.getElem_cons_succ, List.getElem_cons_zero, Act.put, List.setIfInBounds_toArray, List.set_cons_zero, List.set_cons_succ])
                    refine wpAnyH_ready (rs := [8]) (by kernel_rfl) (by simp) ?_
                    refine AllReadyH.cons rfl (fun K hK => ?_) AllReadyH.nil
                    go_simp
                    have HE1 := Lib.hid hHeld.2.2.2.2.2.2.2.2
                    clear hEz
                    refine (specRightAt_c _ t k _ (HT.out.grow HE1.out).view).mono ?_
                    rintro e wz2 ⟨v9, rfl, hEy, O9⟩
                    obtain ⟨ya, yc, rfl⟩ := sl_form O9.view
                    have HQ := Lib.hid O9.view
                    replace HO := Lib.hid (rowsC.vext HO.out hEy)
                    clear O9
                    (try go_wp2_with fail)
                    refine hK.out _ _ ?_ (fun hHeld2 => ?_)
                    · (try dsimp only); (obtain ⟨s0, s1, s2, s3, s4, s5, s6, s7, s8⟩ := hHeld; exact ⟨cell_ext s0 hEy, cell_ext s1 hEy, cell_ext s2 hEy, cell_ext s3 hEy, cell_ext s4 hEy, cell_ext s5 hEy, cell_ext s6 hEy, cell_ext s7 hEy, s8.trans hEy⟩)
                    clear hK K hHeld
                    rename _ => hHeld
                    (try simp only [List.getElem_toArray, List.getElem_cons_succ, List.getElem_cons_zero, Act.put, List.setIfInBounds_toArray, List.set_cons_zero, List.set_cons_succ])
                    refine wpAnyH_ready (rs := [9]) (by kernel_rfl) (by simp) ?_
                    refine AllReadyH.cons rfl (fun K hK => ?_) AllReadyH.nil
                    go_simp
                    clear hEy
                    refine (w5Rows_same _ _ (rightAt t k) _ HO.out HQ.out).mono ?_
                    rintro e wz3 ⟨rfl, hEx⟩
                    (try go_wp2_with fail)
                    refine hK.out _ _ ?_ (fun hHeld2 => ?_)
                    · (try dsimp only); (obtain ⟨s0, s1, s2, s3, s4, s5, s6, s7, s8⟩ := hHeld; exact ⟨cell_ext s0 hEx, cell_ext s1 hEx, cell_ext s2 hEx, cell_ext s3 hEx, cell_ext s4 hEx, cell_ext s5 hEx, cell_ext s6 hEx, cell_ext s7 hEx, s8.trans hEx⟩)
                    clear hK K hHeld
                    rename _ => hHeld
                    (try simp only [List.getElem_toArray, List.getElem_cons_succ, List.getElem_cons_zero, Act.put, List.setIfInBounds_toArray, List.set_cons_zero, List.set_cons_succ])
                    refine wpAnyH_take (i := 10) (v := ?_) rfl (by kernel_rfl) (by kernel_rfl) (by kernel_rfl) (fun _ _ _ h => h) (Or.inl ⟨by rfl, ?_⟩) (by assumption) ?_
                    rotate_left
                    · intro w9 hSw; (try dsimp only at hSw); go_simp; (first | done | with_reducible rfl)
                    (try simp only [List.getElem_toArray, List.getElem_cons_succ, List.getElem_cons_zero, Act.put, List.setIfInBounds_toArray, List.set_cons_zero, List.set_cons_succ])
                    refine wpAnyH_take (i := 11) (v := ?_) rfl (by kernel_rfl) (by kernel_rfl) (by kernel_rfl) (fun _ _ _ h => h) (Or.inl ⟨by rfl, ?_⟩) (by assumption) ?_
                    rotate_left
                    · intro w9 hSw; (try dsimp only at hSw); go_simp; (first | done | with_reducible rfl)
                    (try simp only [List.getElem_toArray, List.getElem_cons_succ, List.getElem_cons_zero, Act.put, List.setIfInBounds_toArray, List.set_cons_zero, List.set_cons_succ])
                    refine wpAnyH_done (by kernel_rfl) ?_ _
                    have HE := Lib.hid hHeld.2.2.2.2.2.2.2.2
                    clear hHeld
                    go_wp2
                    go_roundw
                    case rel => exact ⟨k + 1, by go_num, by omega, Lib.hid (HI.out.trans HE.out)⟩
                    case measure => simp [intOf]; omega
                  · refine wp_region_held_drew (S := fun ω => ω.cell? ⟨b3, 0, none⟩ = some (.slice pa t.1.1.length pc) ∧ ω.cell? ⟨b3, 1, none⟩ = some (.slice qa t.1.2.length qc) ∧ ω.cell? ⟨b3, 2, none⟩ = some (.slice ra t.2.1.length rc) ∧ ω.cell? ⟨b3, 3, none⟩ = some (.slice sa t.2.2.length sc) ∧ ω.cell? ⟨b5, 0, none⟩ = some (.slice pa5 f.1.1.length pc5) ∧ ω.cell? ⟨b5, 1, none⟩ = some (.slice qa5 f.1.2.length qc5) ∧ ω.cell? ⟨b5, 2, none⟩ = some (.slice ra5 f.2.1.length rc5) ∧ ω.cell? ⟨b5, 3, none⟩ = some (.slice sa5 f.2.2.length sc5) ∧ Ext wb1 ω) (by kernel_rfl) ?_ (fun hHeld => ?_)
                    · (try dsimp only); exact ⟨cHT0, cHT1, cHT2, cHT3, cHF0, cHF1, cHF2, cHF3, Ext.drew _⟩
                    refine wpAnyH_take (i := 0) (v := ?_) rfl (by kernel_rfl) (by kernel_rfl) (by kernel_rfl) (fun _ _ _ h => h) (Or.inl ⟨by rfl, ?_⟩) (by assumption) ?_
                    rotate_left
                    · intro w9 hSw; (try dsimp only at hSw); go_simp; (first | done | with_reducible rfl)
                    (try simp only [List.getElem_toArray, List.getElem_cons_succ, List.getElem_cons_zero, Act.put, List.setIfInBounds_toArray, List.set_cons_zero, List.set_cons_succ])
                    refine wpAnyH_take (i := 1) (v := ?_) rfl (by kernel_rfl) (by kernel_rfl) (by kernel_rfl) (fun _ _ _ h => h) (Or.inl ⟨by rfl, ?_⟩) (by assumption) ?_
                    rotate_left
                    · intro w9 hSw; (try dsimp only at hSw); go_simp; (first | done | with_reducible rfl)
                    (try simp only [List.getElem_toArray, List.getElem_cons_succ, List.getElem_cons_zero, Act.put, List.setIfInBounds_toArray, List.set_cons_zero, List.set_cons_succ])
                    refine wpAnyH_take (i := 2) (v := ?_) rfl (by kernel_rfl) (by kernel_rfl) (by kernel_rfl) (fun _ _ _ h => h) (Or.inl ⟨by rfl, ?_⟩) (by assumption) ?_
                    rotate_left
                    · intro w9 hSw; (try dsimp only at hSw); go_simp; (first | done | with_reducible rfl)
                    (try simp only [List.getElem_toArray, List.getElem_cons_succ, List.getElem_cons_zero, Act.put, List.setIfInBounds_toArray, List.set_cons_zero, List.set_cons_succ])
                    refine wpAnyH_take (i := 3) (v := undef) rfl (by kernel_rfl) (by kernel_rfl) (by kernel_rfl) (fun _ _ _ h => h) (Or.inr ⟨by rfl, rfl⟩) (by assumption) ?_
                    (try simp only [List.getElem_toArray, List.getElem_cons_succ, List.getElem_cons_zero, Act.put, List.setIfInBounds_toArray, List.set_cons_zero, List.set_cons_succ])
                    refine wpAnyH_take (i := 4) (v := undef) rfl (by kernel_rfl) (by kernel_rfl) (by kernel_rfl) (fun _ _ _ h => h) (Or.inr ⟨by rfl, rfl⟩) (by assumption) ?_
                    (try simp only [List.getElem_toArray, List.getElem_cons_succ, List.getElem_cons_zero, Act.put, List.setIfInBounds_toArray, List.set_cons_zero, List.set_cons_succ])
                    refine wpAnyH_take (i := 5) (v := undef) rfl (by kernel_rfl) (by kernel_rfl) (by kernel_rfl) (fun _ _ _ h => h) (Or.inr ⟨by rfl, rfl⟩) (by assumption) ?_
                    (try simp only [List.getElem_toArray, List.getElem_cons_succ, List.getElem_cons_zero, Act.put, List.setIfInBounds_toArray, List.set_cons_zero, List.set_cons_succ])
                    refine wpAnyH_take (i := 6) (v := undef) rfl (by kernel_rfl) (by kernel_rfl) (by kernel_rfl) (fun _ _ _ h => h) (Or.inr ⟨by rfl, rfl⟩) (by assumption) ?_
                    (try simp only [List.getElem_toArray, List.getElem_cons_succ, List.getElem_cons_zero, Act.put, List.setIfInBounds_toArray, List.set_cons_zero, List.set_cons_succ])
                    refine wpAnyH_take (i := 7) (v := undef) rfl (by kernel_rfl) (by kernel_rfl) (by kernel_rfl) (fun _ _ _ h => h) (Or.inr ⟨by rfl, rfl⟩) (by assumption) ?_
                    (try simp only [List.getElem_toArray, List.getElem_cons_succ, List.getElem_cons_zero, Act.put, List.setIfInBounds_toArray, List.set_cons_zero, List.set_cons_succ])
                    refine wpAnyH_take (i := 8) (v := undef) rfl (by kernel_rfl) (by kernel_rfl) (by kernel_rfl) (fun _ _ _ h => h) (Or.inr ⟨by rfl, rfl⟩) (by assumption) ?_
                    (try simp only [List.getElem_toArray, List.getElem_cons_succ, List.getElem_cons_zero, Act.put, List.setIfInBounds_toArray, List.set_cons_zero, List.set_cons_succ])
                    refine wpAnyH_take (i := 9) (v := undef) rfl (by kernel_rfl) (by kernel_rfl) (by kernel_rfl) (fun _ _ _ h => h) (Or.inr ⟨by rfl, rfl⟩) (by assumption) ?_
                    (try simp only [List.getElem_toArray, List.getElem_cons_succ, List.getElem_cons_zero, Act.put, List.setIfInBounds_toArray, List.set_cons_zero, List.set_cons_succ])
                    refine wpAnyH_take (i := 10) (v := undef) rfl (by kernel_rfl) (by kernel_rfl) (by kernel_rfl) (fun _ _ _ h => h) (Or.inr ⟨by rfl, rfl⟩) (by assumption) ?_
                    (try simp only [List.getElem_toArray, List.getElem_cons_succ, List.getElem_cons_zero, Act.put, List.setIfInBounds_toArray, List.set_cons_zero, List.set_cons_succ])
                    refine wpAnyH_take (i := 11) (v := ?_) rfl (by kernel_rfl) (by kernel_rfl) (by kernel_rfl) (fun _ _ _ h => h) (Or.inl ⟨by rfl, ?_⟩) (by assumption) ?_
                    rotate_left
                    · intro w9 hSw; (try dsimp only at hSw); go_simp; (first | done | with_reducible rfl)
                    (try simp only [List.getElem_toArray, List.getElem_cons_succ, List.getElem_cons_zero, Act.put, List.setIfInBounds_toArray, List.set_cons_zero, List.set_cons_succ])
                    refine wpAnyH_done (by kernel_rfl) ?_ _
                    have HE := Lib.hid hHeld.2.2.2.2.2.2.2.2
                    clear hHeld
                    go_wp2
                    go_roundw
                    case rel => exact ⟨k + 1, by go_num, by omega, Lib.hid (HI.out.trans HE.out)⟩
                    case measure => simp [intOf]; omega
        · have hd : decide ((k : Int) < (t.1.1.length : Int)) = false := by rw [decide_eq_false_iff_not]; omega
          go_wp2_with fail
          refine (implTwoOk_c _ f _ HF.out.view).mono ?_
          rw [HOF.out]
          rintro e w9 ⟨rfl, X9⟩
          replace HX := Lib.hid (HX.out.trans X9)
          clear X9
          go_wp2
          go_ret
          exact ⟨rfl, HX.out⟩

set_option maxRecDepth 100000 in
theorem mirrorfalls_holds : Rows.FnMirrorFallsSaid :=
  OpenClaim.holds_of_wide 9 Try.f9 rfl rfl rfl rfl rfl rfl rfl ⟨rfl, rfl, rfl, rfl, rfl⟩ rfl rfl rfl rfl rfl (by kernel_rfl) Try.func9 (by kernel_rfl)
    (of_decide_eq_true (by kernel_rfl)) (by unfold Func.isWrapper; rw [if_neg (of_decide_eq_false (by kernel_rfl))]; exact ⟨rfl, rfl⟩)
    (fun os started H enc _ => law_lifted (C := Try.checked) (f := 9) (fn := Try.f9) (s := Rows.fnMirrorFallsSpec) (tb := 4) Try.own started (by kernel_rfl) Try.func9 Try.laidOut (of_decide_eq_true (by kernel_rfl)) rfl Try.underlying4 rfl
      (fun ds h => by match ds, h with | [_], _ => exact ⟨rfl, rfl, rfl⟩)
      (ChangeSpec.witness6 (enc := enc) (C := Try.checked) false ⟨#[], #[.slice none 0 0], []⟩ 8 (by kernel_rfl) (by kernel_rfl) (by kernel_rfl) (by kernel_rfl))
      mirrorfalls_c)

end Go.Proofs.Ytbapomhoipdanaa
