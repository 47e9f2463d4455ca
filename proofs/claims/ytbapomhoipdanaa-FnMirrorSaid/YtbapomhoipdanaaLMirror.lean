/- The law FnMirror is true for every input: it returns true, and what it was given reads as before. -/
import Derived.Test.YtbapomhoipdanaaCod
import Derived.Test.YtbapomhoipdanaaMrm
import Derived.Test.YtbapomhoipdanaaTw2e
import Derived.Test.YtbapomhoipdanaaTw3
import Derived.Test.YtbapomhoipdanaaTw4
import Derived.Test.YtbapomhoipdanaaTill3
import Derived.Deep.DeepCutAuto
set_option linter.unusedVariables false
set_option linter.unusedSimpArgs false
namespace Go.Proofs.Ytbapomhoipdanaa
open Go.RowKit Go.Sl

set_option maxHeartbeats 8000000 in
set_option maxRecDepth 100000 in
theorem mirror_c (W : World) (args : Array Value) (hs : args.size = 1) (h : ∀ (j : Nat) t v, Try.f10.params[j]? = some t → args[j]? = some v → ArgOk Try.prog W t v) :
    Calls Try.prog 10 args W fun e W' => e = .returned (.bool true) ∧ Ext W W' := by
  match args, hs with
  | ⟨[a0]⟩, _ =>
    obtain ⟨ca, n, cc, rfl, hn1, hn2, HC⟩ := arg_codeR (h 0 _ a0 rfl rfl)
    clear h
    by_cases hbig : n ≤ 4096
    rotate_left
    · have hb : decide ((4096 : Int) < n) = true := by rw [decide_eq_true_iff]; omega
      have Hb := Lib.hid hb; clear hb
      go_enter Try.func10, Try.ntmps10
      go_wp2_with (go_at_call 34; refine (big_c _ _ _ _).mono ?_; rw [Hb.out]; rintro e w' ⟨rfl, rfl⟩)
      go_ret
      exact ⟨rfl, Ext.refl _⟩
    have hb : decide ((4096 : Int) < n) = false := by rw [decide_eq_false_iff_not]; omega
    have Hb := Lib.hid hb; clear hb
    go_enter Try.func10, Try.ntmps10
    go_wp2_with fail
    refine (big_c _ _ _ _).mono ?_
    rw [Hb.out]
    rintro e w' ⟨rfl, rfl⟩
    go_wp2_with fail
    refine (roll_c n cc ca 506 _ hbig HC.out).mono ?_
    rintro e w1 ⟨db, rfl, hdb, hD, -, X1⟩
    have HD1 : Hid (Dd W ca n cc db w1) := Lib.hid ⟨hD, X1, HC.out, hdb⟩
    have hdl := hD.lt
    clear hD X1
    go_wp2_with fail
    refine (implNewTwo_c 4 _).mono ?_
    rw [mr_new]
    rintro e w2 ⟨u0, v0, u1, v1, rfl, X2, O2⟩
    obtain ⟨pa, pc, qa, qc, pa', pc', qa', qc', rfl, rfl, rfl, rfl⟩ := two_form O2 (k := 0) (k' := 0) rfl rfl
    have z2 := X2.size
    have HM : Hid (MM W ca n cc db w2.heap.size (w2.alloc (.cells #[.slice pa 4 pc, .slice qa 0 qc, .slice pa' 4 pc', .slice qa' 0 qc'] 34)) (.slice pa 4 pc) (.slice qa 0 qc) (.slice pa' 4 pc') (.slice qa' 0 qc') ((mrow [], []), (mrow [], []))) := by
      obtain ⟨fp, h1, h2⟩ := O2.pAlloc (.cells #[.slice pa 4 pc, .slice qa 0 qc, .slice pa' 4 pc', .slice qa' 0 qc'] 34)
      exact ⟨(HD1.out.grow X2).grow (Ext.alloc _ _), Bx.new _ _ _ _ rfl, ⟨fp, h1, fun b hb => by have := h2.2 b hb; omega⟩, by omega⟩
    clear X2 O2 HD1
    go_wp2_with fail
    refine (HM.out.dd.below 1000 (by decide)).mono ?_
    rintro e w3 ⟨x, hx0, hx1, rfl, hD, hC⟩
    replace HM := Lib.hid (HM.out.dice hC hD)
    have zw3 := HM.out.box.lt
    clear hD hC
    go_wp2_with fail
    refine (HM.out.dd.below 1000 (by decide)).mono ?_
    rintro e w4 ⟨y, hy0, hy1, rfl, hD, hC⟩
    replace HM := Lib.hid (HM.out.dice hC hD)
    have zw4 := HM.out.box.lt
    clear hD hC
    go_wp2_with fail
    refine (HM.out.dd.below 1000 (by decide)).mono ?_
    rintro e w5 ⟨z, hz0, hz1, rfl, hD, hC⟩
    replace HM := Lib.hid (HM.out.dice hC hD)
    have zw5 := HM.out.box.lt
    clear hD hC
    have hrow := Lib.hid (mr_row ⟨hx0, hx1⟩ ⟨hy0, hy1⟩ ⟨hz0, hz1⟩)
    have HR : Hid (Bx (w5.alloc (.cells #[.int .i64 x, .int .i64 y, .int .i64 z] 2)) w5.heap.size [.int .i64 x, .int .i64 y, .int .i64 z]) := Lib.hid (Bx.new _ _ _ _ rfl)
    replace HM := Lib.hid (HM.out.grow (Ext.alloc w5 (.cells #[.int .i64 x, .int .i64 y, .int .i64 z] 2)))
    have HA := Lib.hid (mr_wrote (t := []) (u := []) hrow.out (by simp) rfl rfl)
    clear hx0 hx1 hy0 hy1 hz0 hz1
    have c0 := HM.out.box.cell 0 _ rfl; have c1 := HM.out.box.cell 1 _ rfl; have c2 := HM.out.box.cell 2 _ rfl; have c3 := HM.out.box.cell 3 _ rfl
    go_wp2_with fail
    refine (implBothWrote_c _ ((mrow [], []), (mrow [], [])) 2 _ [x, y, z] _ HM.out.view (row_bx HR.out)).mono ?_
    rw [HA.out]
    generalize hs9 : [x, y, z] ++ [chk [x, y, z]] = s at *
    have hss := Lib.hid hs9
    have hso : Hid (rowOk s = true) := Lib.hid (hs9 ▸ rowOk_sum hrow.out (by simp))
    have hsl : s.length = 4 := by rw [← hs9]; rfl
    have HSL := Lib.hid hsl
    clear hs9 hsl HA
    rintro e w6 ⟨u6, v6, u7, v7, rfl, X6, O6⟩
    obtain ⟨pa6, pc6, qa6, qc6, pa7, pc7, qa7, qc7, rfl, rfl, rfl, rfl⟩ := two_form O6 (k := 1) (k' := 1) rfl rfl
    replace HR := Lib.hid (HR.out.ext X6)
    replace HM := Lib.hid (HM.out.grow X6)
    have z6 := X6.size
    (try simp at z6)
    have HO6 := Lib.hid O6
    clear c0 c1 c2 c3
    clear X6 O6
    have fn := HM.out.box.fr; have ln := HM.out.box.lt; have c0 := HM.out.box.cell 0 _ rfl; have c1 := HM.out.box.cell 1 _ rfl; have c2 := HM.out.box.cell 2 _ rfl; have c3 := HM.out.box.cell 3 _ rfl
    have HM6 := Lib.hid (HM.out.put HO6.out (by simp; omega))
    have HR6 := Lib.hid (HR.out.chg (put4 w6 w2.heap.size (.slice pa6 4 pc6) (.slice qa6 1 qc6) (.slice pa7 4 pc7) (.slice qa7 1 qc7)) (by omega))
    go_upto_region 7 with fail
    clear HM HR HO6; have HM := HM6; have HR := HR6; clear HM6 HR6 fn ln; clear c0 c1 c2 c3
    generalize ((((w6.setCell ⟨w2.heap.size, 0, none⟩ (.slice pa6 4 pc6)).setCell ⟨w2.heap.size, 1, none⟩ (.slice qa6 1 qc6)).setCell ⟨w2.heap.size, 2, none⟩ (.slice pa7 4 pc7)).setCell ⟨w2.heap.size, 3, none⟩ (.slice qa7 1 qc7)) = wa at *
    have c0 := HM.out.box.cell 0 _ rfl; have c1 := HM.out.box.cell 1 _ rfl; have c2 := HM.out.box.cell 2 _ rfl; have c3 := HM.out.box.cell 3 _ rfl
    have zr := HR.out.lt
    go_wp2_with fail
    refine (implBothSynced_c _ ((mrow [], [(2, s)]), (mrow [], [(2, s)])) _ HM.out.view).mono ?_
    rw [mr_synced hso.out rfl rfl]
    rintro e w8 ⟨u6, v6, u7, v7, rfl, X6, O6⟩
    obtain ⟨pa8, pc8, qa8, qc8, pa9, pc9, qa9, qc9, rfl, rfl, rfl, rfl⟩ := two_form O6 (k := 0) (k' := 0) rfl rfl
    replace HR := Lib.hid (HR.out.ext X6)
    replace HM := Lib.hid (HM.out.grow X6)
    have z8 := X6.size
    have HO6 := Lib.hid O6
    clear c0 c1 c2 c3
    clear X6 O6
    have fn := HM.out.box.fr; have ln := HM.out.box.lt; have c0 := HM.out.box.cell 0 _ rfl; have c1 := HM.out.box.cell 1 _ rfl; have c2 := HM.out.box.cell 2 _ rfl; have c3 := HM.out.box.cell 3 _ rfl
    have HM6 := Lib.hid (HM.out.put HO6.out (by have := HM.out.box.lt; omega))
    have HR6 := Lib.hid (HR.out.chg (put4 w8 w2.heap.size (.slice pa8 4 pc8) (.slice qa8 0 qc8) (.slice pa9 4 pc9) (.slice qa9 0 qc9)) (by omega))
    go_upto_region 8 with fail
    clear HM HR HO6; have HM := HM6; have HR := HR6; clear HM6 HR6 fn ln; clear c0 c1 c2 c3
    generalize ((((w8.setCell ⟨w2.heap.size, 0, none⟩ (.slice pa8 4 pc8)).setCell ⟨w2.heap.size, 1, none⟩ (.slice qa8 0 qc8)).setCell ⟨w2.heap.size, 2, none⟩ (.slice pa9 4 pc9)).setCell ⟨w2.heap.size, 3, none⟩ (.slice qa9 0 qc9)) = wb at *
    have c0 := HM.out.box.cell 0 _ rfl; have c1 := HM.out.box.cell 1 _ rfl; have c2 := HM.out.box.cell 2 _ rfl; have c3 := HM.out.box.cell 3 _ rfl
    go_wp2_with fail
    refine (implEqualIn_c _ ((mrow s, []), (mrow s, [])) _ HM.out.view).mono ?_
    rw [mr_equal hso.out]
    rintro e w9 ⟨rfl, X9⟩
    replace HR := Lib.hid (HR.out.ext X9)
    replace HM := Lib.hid (HM.out.grow X9)
    clear c0 c1 c2 c3
    clear X9
    obtain ⟨kb, ko, sa, sc, rfl, hkb, hkt, hk, hsb, hsv⟩ := HM.out.peek
    rw [HSL.out] at hk hsv
    have HK := Lib.hid (And.intro hk (And.intro hsv hsb))
    clear hsb hsv
    have c0 := HM.out.box.cell 0 _ rfl; have c1 := HM.out.box.cell 1 _ rfl; have c2 := HM.out.box.cell 2 _ rfl; have c3 := HM.out.box.cell 3 _ rfl
    go_upto_region 10 with fail
    clear hk; clear c0 c1 c2 c3
    go_wp2_with fail
    refine (HM.out.dd.below 4 (by decide)).mono ?_
    rintro e wk ⟨i, hi0, hi1, rfl, hD, hC⟩
    obtain ⟨q, rfl⟩ := Int.eq_ofNat_of_zero_le hi0
    clear hi0
    have hq : q < 4 := by omega
    have hkC : Hid (wk.cell? ⟨kb, ko + 2, none⟩ = some (.slice sa 4 sc)) := Lib.hid (cell_chg HK.out.1 hC (by omega))
    have hsC : Hid (∃ sb so x, sa = some ⟨sb, so, none⟩ ∧ db < sb ∧ wk.cell? ⟨sb, so + q, none⟩ = some (.int .i64 x) ∧ s[q]? = some x) := by
      obtain ⟨a9, c9, e9, h1, h2, h3⟩ := row_open HK.out.2.1
      rw [HSL.out] at e9
      cases e9
      obtain ⟨sb, so, x9, e9, h4, h5⟩ := h3 q (by have := HSL.out; omega)
      cases e9
      have hdb := HK.out.2.2 sb (by simp [ablk])
      exact Lib.hid ⟨sb, so, x9, rfl, hdb.1, cell_chg h4 hC (by omega), h5.out⟩
    replace HR := Lib.hid (HR.out.chg hC (by omega))
    replace HM := Lib.hid (HM.out.dice hC hD)
    clear hD hC HK
    obtain ⟨sb, so, x1, rfl, hdb, hx1, hx2⟩ := hsC.out
    have HX2 := Lib.hid hx2
    have hx3 : 0 ≤ x1 ∧ x1 ≤ 1000000000 := by
      have := hso.out
      simp only [rowOk, Bool.and_eq_true, List.all_eq_true] at this
      have := this.2 x1 (List.mem_of_getElem? hx2)
      simpa [inRow, inB] using this
    clear hx2 hsC
    have k1 := hkC.out
    have c2 := HM.out.box.cell 2 _ rfl
    have hwx1 : IntKind.i64.wrap (x1 + 1) = x1 + 1 := IntWalk.i64_in _ (by omega)
    have hi1 : (0 : Int) ≤ q := by omega
    go_upto_region 11 with fail
    go_cut [8] (fun s8 wx => ∃ (e1 : Int), s8 = .int .i64 e1 ∧ x1 + 1 ≤ e1 ∧ e1 < x1 + 1001 ∧ Hid (MM W ca n cc db w2.heap.size wx (.slice pa8 4 pc8) (.slice qa8 0 qc8) (.slice (some ⟨kb, ko, none⟩) 4 pc9) (.slice qa9 0 qc9) ((mrow s, []), (mrow s, [])) ∧ Bx wx w5.heap.size [.int .i64 x, .int .i64 y, .int .i64 z] ∧ wx.cell? ⟨kb, ko + 2, none⟩ = some (.slice (some ⟨sb, so, none⟩) 4 sc) ∧ wx.cell? ⟨sb, so + q, none⟩ = some (.int .i64 x1)))
    case first =>
      go_wp2
      refine wp_region_held_drew (S := fun ω => ω.cell? ⟨w2.heap.size, 2, none⟩ = some (.slice (some ⟨kb, ko, none⟩) 4 pc9) ∧ ω.cell? ⟨kb, ko + 2, none⟩ = some (.slice (some ⟨sb, so, none⟩) 4 sc) ∧ ω.cell? ⟨sb, so + q, none⟩ = some (.int .i64 x1)) (by kernel_rfl) ?_ (fun hHeld => ?_)
      · (try dsimp only); exact ⟨c2, k1, hx1⟩
      refine wpAnyH_take (i := 0) (v := ?_) rfl (by kernel_rfl) (by kernel_rfl) (by kernel_rfl) (fun _ _ _ h => h) (Or.inl ⟨by rfl, ?_⟩) (by assumption) ?_
      rotate_left
      · intro w9 hSw; (try dsimp only at hSw); go_simp; (first | done | with_reducible rfl)
      (try simp only [List.getElem_toArray, List.getElem_cons_succ, List.getElem_cons_zero, Act.put, List.setIfInBounds_toArray, List.set_cons_zero, List.set_cons_succ])
      refine wpAnyH_take (i := 1) (v := ?_) rfl (by kernel_rfl) (by kernel_rfl) (by kernel_rfl) (fun _ _ _ h => h) (Or.inl ⟨by rfl, ?_⟩) (by assumption) ?_
      rotate_left
      · intro w9 hSw; (try dsimp only at hSw); go_simp; (first | done | with_reducible rfl)
      (try simp only [List.getElem_toArray, List.getElem_cons_succ, List.getElem_cons_zero, Act.put, List.setIfInBounds_toArray, List.set_cons_zero, List.set_cons_succ])
      refine wpAnyH_take (i := 2) (v := ?_) rfl (by kernel_rfl) (by kernel_rfl) (by kernel_rfl) (fun _ _ _ h => h) (Or.inl ⟨by rfl, ?_⟩) (by assumption) ?_
      rotate_left
      · intro w9 hSw; (try dsimp only at hSw); go_simp; (first | done | with_reducible rfl)
      (try simp only [List.getElem_toArray, List.getElem_cons_succ, List.getElem_cons_zero, Act.put, List.setIfInBounds_toArray, List.set_cons_zero, List.set_cons_succ])
      refine wpAnyH_take (i := 3) (v := ?_) rfl (by kernel_rfl) (by kernel_rfl) (by kernel_rfl) (fun _ _ _ h => h) (Or.inl ⟨by rfl, ?_⟩) (by assumption) ?_
      rotate_left
      · intro w9 hSw; (try dsimp only at hSw); go_simp; (first | done | with_reducible rfl)
      (try simp only [List.getElem_toArray, List.getElem_cons_succ, List.getElem_cons_zero, Act.put, List.setIfInBounds_toArray, List.set_cons_zero, List.set_cons_succ])
      refine wpAnyH_take (i := 4) (v := ?_) rfl (by kernel_rfl) (by kernel_rfl) (by kernel_rfl) (fun _ _ _ h => h) (Or.inl ⟨by rfl, ?_⟩) (by assumption) ?_
      rotate_left
      · intro w9 hSw; (try dsimp only at hSw); go_simp; (first | done | with_reducible rfl)
      (try simp only [List.getElem_toArray, List.getElem_cons_succ, List.getElem_cons_zero, Act.put, List.setIfInBounds_toArray, List.set_cons_zero, List.set_cons_succ])
      refine wpAnyH_take (i := 5) (v := ?_) rfl (by kernel_rfl) (by kernel_rfl) (by kernel_rfl) (fun _ _ _ h => h) (Or.inl ⟨by rfl, ?_⟩) (by assumption) ?_
      rotate_left
      · intro w9 hSw; (try dsimp only at hSw); go_simp; (first | done | with_reducible rfl)
      (try simp only [List.getElem_toArray, List.getElem_cons_succ, List.getElem_cons_zero, Act.put, List.setIfInBounds_toArray, List.set_cons_zero, List.set_cons_succ])
      refine wpAnyH_take (i := 6) (v := ?_) rfl (by kernel_rfl) (by kernel_rfl) (by kernel_rfl) (fun _ _ _ h => h) (Or.inl ⟨by rfl, ?_⟩) (by assumption) ?_
      rotate_left
      · intro w9 hSw; (try dsimp only at hSw); go_simp; (first | done | with_reducible rfl)
      (try simp only [List.getElem_toArray, List.getElem_cons_succ, List.getElem_cons_zero, Act.put, List.setIfInBounds_toArray, List.set_cons_zero, List.set_cons_succ])
      refine wpAnyH_take (i := 7) (v := ?_) rfl (by kernel_rfl) (by kernel_rfl) (by kernel_rfl) (fun _ _ _ h => h) (Or.inl ⟨by rfl, ?_⟩) (by assumption) ?_
      rotate_left
      · intro w9 hSw; (try dsimp only at hSw); go_simp; (first | done | with_reducible rfl)
      (try simp only [List.getElem_toArray, List.getElem_cons_succ, List.getElem_cons_zero, Act.put, List.setIfInBounds_toArray, List.set_cons_zero, List.set_cons_succ])
      refine wpAnyH_take (i := 8) (v := ?_) rfl (by kernel_rfl) (by kernel_rfl) (by kernel_rfl) (fun _ _ _ h => h) (Or.inl ⟨by rfl, ?_⟩) (by assumption) ?_
      rotate_left
      · intro w9 hSw; (try dsimp only at hSw); go_simp; (first | done | with_reducible rfl)
      (try simp only [List.getElem_toArray, List.getElem_cons_succ, List.getElem_cons_zero, Act.put, List.setIfInBounds_toArray, List.set_cons_zero, List.set_cons_succ])
      refine wpAnyH_take (i := 9) (v := ?_) rfl (by kernel_rfl) (by kernel_rfl) (by kernel_rfl) (fun _ _ _ h => h) (Or.inl ⟨by rfl, ?_⟩) (by assumption) ?_
      rotate_left
      · intro w9 hSw; (try dsimp only at hSw); go_simp; (first | done | with_reducible rfl)
      (try simp only [List.getElem_toArray, List.getElem_cons_succ, List.getElem_cons_zero, Act.put, List.setIfInBounds_toArray, List.set_cons_zero, List.set_cons_succ])
      refine wpAnyH_ready (rs := [10]) (by kernel_rfl) (by simp) ?_
      refine AllReadyH.cons rfl (fun K hK => ?_) AllReadyH.nil
      go_simp
      refine ((HM.out.dd.grow (Ext.drew _)).below 1000 (by decide)).mono ?_
      rintro e wd ⟨y1, hy0, hy1, rfl, hD, hC⟩
      have hwx2 : IntKind.i64.wrap (x1 + 1 + y1) = x1 + 1 + y1 := IntWalk.i64_in _ (by omega)
      (try go_wp2_with fail)
      refine hK.out _ _ ?_ (fun hHeld2 => ?_)
      · (try dsimp only); (obtain ⟨s0, s1, s2⟩ := hHeld; exact ⟨cell_chg s0 hC (by omega), cell_chg s1 hC (by omega), cell_chg s2 hC (by omega)⟩)
      clear hK K hHeld
      rename _ => hHeld
      (try simp only [List.getElem_toArray, List.getElem_cons_succ, List.getElem_cons_zero, Act.put, List.setIfInBounds_toArray, List.set_cons_zero, List.set_cons_succ])
      refine wpAnyH_take (i := 11) (v := ?_) rfl (by kernel_rfl) (by kernel_rfl) (by kernel_rfl) (fun _ _ _ h => h) (Or.inl ⟨by rfl, ?_⟩) (by assumption) ?_
      rotate_left
      · intro w9 hSw; (try dsimp only at hSw); go_simp; (first | done | with_reducible rfl)
      (try simp only [List.getElem_toArray, List.getElem_cons_succ, List.getElem_cons_zero, Act.put, List.setIfInBounds_toArray, List.set_cons_zero, List.set_cons_succ])
      refine wpAnyH_take (i := 12) (v := ?_) rfl (by kernel_rfl) (by kernel_rfl) (by kernel_rfl) (fun _ _ _ h => h) (Or.inl ⟨by rfl, ?_⟩) (by assumption) ?_
      rotate_left
      · intro w9 hSw; (try dsimp only at hSw); go_simp; (first | done | with_reducible rfl)
      (try simp only [List.getElem_toArray, List.getElem_cons_succ, List.getElem_cons_zero, Act.put, List.setIfInBounds_toArray, List.set_cons_zero, List.set_cons_succ])
      refine wpAnyH_done (by kernel_rfl) ?_ _
      go_wp2_with fail
      go_meet
      exact ⟨_, rfl, by omega, by omega, Lib.hid ⟨(HM.out.grow (Ext.drew _)).dice hC hD, (HR.out.ext (Ext.drew _)).chg hC (by omega), hHeld.2.1, hHeld.2.2⟩⟩
    case rest =>
      obtain ⟨e1, rfl, he1, he2, HH⟩ := hcut
      obtain ⟨we, hwe⟩ : ∃ w, w = wc := ⟨_, rfl⟩
      subst hwe
      clear HM HR hkC k1 c2 hx1 hwx1
      go_upto_if 71 with fail
      go_cut [8] (fun s8 wx => ∃ (f1 : Int), s8 = .int .i64 f1 ∧ f1 ≠ x1 ∧ 0 ≤ f1 ∧ f1 ≤ 1000000000 ∧ f1 - x1 < 999999937 ∧ x1 - f1 < 999999937 ∧ wx = we)
      case first =>
        by_cases hbig1 : (1000000000 : Int) < e1
        · have hd : decide ((1000000000 : Int) < e1) = true := by rw [decide_eq_true_iff]; exact hbig1
          have c2 := HH.out.1.box.cell 2 _ rfl; have k1 := HH.out.2.2.1; have hx1 := HH.out.2.2.2
          have hwx3 : IntKind.i64.wrap (x1 - 1) = x1 - 1 := IntWalk.i64_in _ (by omega)
          go_wp2_with fail
          go_meet
          exact ⟨_, rfl, by omega, by omega, by omega, by omega, by omega, rfl⟩
        · have hd : decide ((1000000000 : Int) < e1) = false := by rw [decide_eq_false_iff_not]; exact hbig1
          go_wp2_with fail
          go_meet
          exact ⟨_, rfl, by omega, by omega, by omega, by omega, by omega, rfl⟩
      case rest =>
        obtain ⟨f1, rfl, hf1, hf2, hf3, hf4, hf5, hwx⟩ := hcut
        subst hwx
        obtain ⟨we, hwe⟩ : ∃ w, w = wc := ⟨_, rfl⟩
        subst hwe
        clear he1 he2
        have HRo := Lib.hid (mr_rotted hso.out (i := q) (x := f1) (by rw [HSL.out]; exact hq) ⟨hf2, hf3⟩)
        have HBT : Hid (rowOk (s.set q f1) = true) := Lib.hid (rowOk_set hso.out q ⟨hf2, hf3⟩)
        have HBW : Hid ((unsum (s.set q f1)).2 = false) := by
          have hq' : q < s.length := by rw [HSL.out]; exact hq
          have hqx : s[q] = x1 := (List.getElem?_eq_some_iff.1 HX2.out).2
          have hss9 := hss.out
          subst hss9
          exact Lib.hid (bent_wrong _ q f1 hq' (by rw [hqx]; exact hf1) (by rw [hqx]; exact hf4) (by rw [hqx]; exact hf5))
        have HNE : Hid (s ≠ s.set q f1) := Lib.hid (fun e9 => hf1 (by
          have h9 := HX2.out
          rw [e9, List.getElem?_set_self (by rw [HSL.out]; exact hq)] at h9
          exact Option.some.inj h9))
        have HM := Lib.hid HH.out.1
        have HR := Lib.hid HH.out.2.1
        clear HH hf1 hf2 hf3 hf4 hf5
        have hlb := HM.out.lt; have lwe := HM.out.box.lt
        have c2 := HM.out.box.cell 2 _ rfl; have c3 := HM.out.box.cell 3 _ rfl
        go_wp2_with fail
        refine (implRotted_c _ (mrow s, []) 2 q f1 _ HM.out.viewB).mono ?_
        rw [HRo.out]
        rintro e wf ⟨u6, v6, rfl, X6, O6⟩
        generalize hs2 : s.set q f1 = s2 at *
        have Hs2 := Lib.hid hs2; clear hs2
        obtain ⟨pa2, pc2, qa2, qc2, rfl, rfl⟩ := disk_form4 O6 (k := 0) rfl
        replace HR := Lib.hid (HR.out.ext X6)
        replace HM := Lib.hid (HM.out.grow X6)
        have z7 := X6.size
        have HO6 := Lib.hid O6
        clear X6 O6 c2 c3 HRo
        have c0 := HM.out.box.cell 0 _ rfl; have c1 := HM.out.box.cell 1 _ rfl; have c2 := HM.out.box.cell 2 _ rfl; have c3 := HM.out.box.cell 3 _ rfl
        have fn := HM.out.box.fr; have ln := HM.out.box.lt; have lr := HR.out.lt
        have HM6 := Lib.hid ((HM.out.putB HO6.out (by omega)).grow (Ext.alloc _ (.cells #[.slice pa2 4 pc2, .slice qa2 0 qc2] 32)))
        have HR6 := Lib.hid ((HR.out.chg (put2 wf w2.heap.size 2 3 (.slice pa2 4 pc2) (.slice qa2 0 qc2)) (by omega)).ext (Ext.alloc _ (.cells #[.slice pa2 4 pc2, .slice qa2 0 qc2] 32)))
        go_upto_region 16 with fail
        clear HM HR HO6; have HM := HM6; have HR := HR6; clear HM6 HR6 fn ln c0 c1 c2 c3 lr
        generalize (((wf.setCell ⟨w2.heap.size, 2, none⟩ (.slice pa2 4 pc2)).setCell ⟨w2.heap.size, 3, none⟩ (.slice qa2 0 qc2)).alloc (.cells #[.slice pa2 4 pc2, .slice qa2 0 qc2] 32)) = wg at *
        (try simp only at HM)
        have c0 := HM.out.box.cell 0 _ rfl; have c1 := HM.out.box.cell 1 _ rfl; have c2 := HM.out.box.cell 2 _ rfl; have c3 := HM.out.box.cell 3 _ rfl
        go_wp2_with fail
        have HRi : Hid (rightAt ((mrow s, []), (mrow s2, [])) 2 = [[x, y, z]]) := by
          have hss9 := hss.out
          subst hss9
          exact Lib.hid (mr_right hrow.out (by simp) HBT.out HBW.out)
        have HEq := Lib.hid (mr_unequal HNE.out)
        have HMe : Hid (mendedAt ((mrow s, []), (mrow s2, [])) 2 [x, y, z] = ((mrow s, []), (mrow s, []))) := by
          have hss9 := hss.out
          subst hss9
          exact Lib.hid (mr_mended hrow.out (by simp) HBT.out)
        have HR2 : Hid (rightAt ((mrow s, []), (mrow s, [])) 2 = [[x, y, z]]) := by
          have hss9 := hss.out
          subst hss9
          exact Lib.hid (mr_right2 hrow.out (by simp))
        refine (implRightAt_c _ ((mrow s, []), (mrow s2, [])) 2 _ HM.out.view).mono ?_
        rw [HRi.out]
        rintro e wi ⟨rv, rfl, X6, O6⟩
        obtain ⟨ra, rc, rfl⟩ := sl_form O6.view
        have HRW := Lib.hid O6
        replace HR := Lib.hid (HR.out.ext X6)
        replace HM := Lib.hid (HM.out.grow X6)
        clear X6 O6 c0 c1 c2 c3
        (try simp only [List.length_cons, List.length_nil, Nat.zero_add] at HRW ⊢)
        have c0 := HM.out.box.cell 0 _ rfl; have c1 := HM.out.box.cell 1 _ rfl; have c2 := HM.out.box.cell 2 _ rfl; have c3 := HM.out.box.cell 3 _ rfl
        go_wp2_with fail
        refine (implEqualIn_c _ ((mrow s, []), (mrow s2, [])) _ HM.out.view).mono ?_
        rw [HEq.out]
        rintro e wj ⟨rfl, X6⟩
        replace HR := Lib.hid (HR.out.ext X6)
        replace HM := Lib.hid (HM.out.grow X6)
        replace HRW := Lib.hid (HRW.out.ext X6)
        clear X6 c0 c1 c2 c3
        obtain ⟨fp9, h9, -⟩ := HRW.out
        obtain ⟨rb, ro, xa, xc, rfl, -, r0, -, HRV0⟩ := rows_at (m := 0) (s := [x, y, z]) h9 rfl
        clear h9
        have HRV := Lib.hid HRV0
        clear HRV0
        (try simp only [List.length_cons, List.length_nil, Nat.zero_add, Nat.add_zero] at HRV r0)
        go_wp2_with fail
        refine (likeInts_c _ _ [x, y, z] [x, y, z] _ HRV.out (row_bx HR.out)).mono ?_
        rw [decide_eq_true rfl]
        rintro e wk ⟨rfl, X6⟩
        replace HR := Lib.hid (HR.out.ext X6)
        replace HM := Lib.hid (HM.out.grow X6)
        replace HRV := Lib.hid (rowC.vext HRV.out X6)
        replace r0 := cell_ext r0 X6
        clear X6
        go_upto_region 19 with fail
        go_cut [12] (fun s12 wx => ∃ (g : Nat) (a1 a2 a3 a4 : Value), s12 = .pointer (some ⟨g, 0, none⟩) ∧ Hid (Bx wx g [a1, a2, a3, a4] ∧ twoC.V wx [a1, a2, a3, a4] ((mrow s, []), (mrow s, [])) ∧ Ext W wx))
        case first =>
          have c0 := HM.out.box.cell 0 _ rfl; have c1 := HM.out.box.cell 1 _ rfl; have c2 := HM.out.box.cell 2 _ rfl; have c3 := HM.out.box.cell 3 _ rfl
          have xx0 := HM.out.dd.ext
          go_wp2
          refine wp_region_T (S := fun ω => ω.cell? ⟨w2.heap.size, 0, none⟩ = some (.slice pa8 4 pc8) ∧ ω.cell? ⟨w2.heap.size, 1, none⟩ = some (.slice qa8 0 qc8) ∧ ω.cell? ⟨w2.heap.size, 2, none⟩ = some (.slice pa2 4 pc2) ∧ ω.cell? ⟨w2.heap.size, 3, none⟩ = some (.slice qa2 0 qc2) ∧ ω.cell? ⟨rb, ro, none⟩ = some (.slice xa 3 xc) ∧ Ext wk ω) 6 (by kernel_rfl) ?_ (fun hHeld => ?_) (by decide)
          · (try dsimp only); exact ⟨c0, c1, c2, c3, r0, Ext.drew _⟩
          refine wpT_take (i := 0) (v := ?_) rfl (by kernel_rfl) (by decide) (by kernel_rfl) (by kernel_rfl) (by kernel_rfl) (fun _ _ _ h => h) (Or.inl ⟨by rfl, ?_⟩) (by assumption) ?_
          rotate_left
          · intro w9 hSw; (try dsimp only at hSw); go_simp; (first | done | with_reducible rfl)
          (try simp only [List.getElem_toArray, List.getElem_cons_succ, List.getElem_cons_zero, Act.put, List.setIfInBounds_toArray, List.set_cons_zero, List.set_cons_succ])
          refine wpT_take (i := 1) (v := ?_) rfl (by kernel_rfl) (by decide) (by kernel_rfl) (by kernel_rfl) (by kernel_rfl) (fun _ _ _ h => h) (Or.inl ⟨by rfl, ?_⟩) (by assumption) ?_
          rotate_left
          · intro w9 hSw; (try dsimp only at hSw); go_simp; (first | done | with_reducible rfl)
          (try simp only [List.getElem_toArray, List.getElem_cons_succ, List.getElem_cons_zero, Act.put, List.setIfInBounds_toArray, List.set_cons_zero, List.set_cons_succ])
          refine wpT_take (i := 2) (v := ?_) rfl (by kernel_rfl) (by decide) (by kernel_rfl) (by kernel_rfl) (by kernel_rfl) (fun _ _ _ h => h) (Or.inl ⟨by rfl, ?_⟩) (by assumption) ?_
          rotate_left
          · intro w9 hSw; (try dsimp only at hSw); go_simp; (first | done | with_reducible rfl)
          (try simp only [List.getElem_toArray, List.getElem_cons_succ, List.getElem_cons_zero, Act.put, List.setIfInBounds_toArray, List.set_cons_zero, List.set_cons_succ])
          refine wpT_take (i := 3) (v := ?_) rfl (by kernel_rfl) (by decide) (by kernel_rfl) (by kernel_rfl) (by kernel_rfl) (fun _ _ _ h => h) (Or.inl ⟨by rfl, ?_⟩) (by assumption) ?_
          rotate_left
          · intro w9 hSw; (try dsimp only at hSw); go_simp; (first | done | with_reducible rfl)
          (try simp only [List.getElem_toArray, List.getElem_cons_succ, List.getElem_cons_zero, Act.put, List.setIfInBounds_toArray, List.set_cons_zero, List.set_cons_succ])
          refine wpT_step2 (i := 4) (j := 5) (by kernel_rfl) (by decide) (by decide) rfl rfl (fun K hK => ?_) (fun K hK => ?_)
          · go_simp
            refine (implMendedAt_c _ ((mrow s, []), (mrow s2, [])) 2 _ [x, y, z] _ (HM.out.grow (Ext.drew _)).view (rowC.vext HRV.out (Ext.drew _))).mono ?_
            rw [HMe.out]
            rintro e wl ⟨a1, a2, a3, a4, rfl, X6, O6⟩
            obtain ⟨b1, d1, b2, d2, b3, d3, b4, d4, rfl, rfl, rfl, rfl⟩ := two_form O6 (k := 0) (k' := 0) rfl rfl
            have HX6 := Lib.hid X6
            have HO6 := Lib.hid O6
            clear O6
            (try go_wp2_with fail)
            refine hK.out _ _ ?_ (fun hHeld2 => ?_)
            · (try dsimp only); (obtain ⟨s0, s1, s2, s3, s4, s5⟩ := hHeld; exact ⟨cell_ext s0 X6, cell_ext s1 X6, cell_ext s2 X6, cell_ext s3 X6, cell_ext s4 X6, s5.trans X6⟩)
            clear hK K hHeld
            rename _ => hHeld
            (try simp only [List.getElem_toArray, List.getElem_cons_succ, List.getElem_cons_zero, Act.put, List.setIfInBounds_toArray, List.set_cons_zero, List.set_cons_succ])
            clear X6
            refine wpT_step (i := 5) (by kernel_rfl) (by decide) rfl (fun K hK => ?_)
            go_simp
            refine hK.out _ _ ?_ (fun hHeld2 => ?_)
            · (try dsimp only); (obtain ⟨s0, s1, s2, s3, s4, s5⟩ := hHeld; exact ⟨cell_ext s0 (Ext.alloc _ _), cell_ext s1 (Ext.alloc _ _), cell_ext s2 (Ext.alloc _ _), cell_ext s3 (Ext.alloc _ _), cell_ext s4 (Ext.alloc _ _), s5.trans (Ext.alloc _ _)⟩)
            clear hK K hHeld
            rename _ => hHeld
            (try simp only [List.getElem_toArray, List.getElem_cons_succ, List.getElem_cons_zero, Act.put, List.setIfInBounds_toArray, List.set_cons_zero, List.set_cons_succ])
            refine wpT_last (by kernel_rfl) (by kernel_rfl) rfl (fun K hK => ?_)
            clear hHeld
            go_simp
            refine hK.out _ _ ?_
            clear hK K
            go_wp2_with fail
            go_meet
            exact ⟨_, _, _, _, _, rfl, Lib.hid ⟨Bx.new _ _ _ _ rfl, (HO6.out.pAlloc _).view, ((xx0.trans (Ext.drew _)).trans HX6.out).trans (Ext.alloc _ _)⟩⟩
          · go_simp
            refine hK.out _ _ ?_ (fun hHeld2 => ?_)
            · (try dsimp only); (obtain ⟨s0, s1, s2, s3, s4, s5⟩ := hHeld; exact ⟨cell_ext s0 (Ext.alloc _ _), cell_ext s1 (Ext.alloc _ _), cell_ext s2 (Ext.alloc _ _), cell_ext s3 (Ext.alloc _ _), cell_ext s4 (Ext.alloc _ _), s5.trans (Ext.alloc _ _)⟩)
            clear hK K hHeld
            rename _ => hHeld
            (try simp only [List.getElem_toArray, List.getElem_cons_succ, List.getElem_cons_zero, Act.put, List.setIfInBounds_toArray, List.set_cons_zero, List.set_cons_succ])
            refine wpT_step (i := 4) (by kernel_rfl) (by decide) rfl (fun K hK => ?_)
            go_simp
            refine (implMendedAt_c _ ((mrow s, []), (mrow s2, [])) 2 _ [x, y, z] _ (HM.out.grow ((Ext.drew _).trans (Ext.alloc _ _))).view (rowC.vext HRV.out ((Ext.drew _).trans (Ext.alloc _ _)))).mono ?_
            rw [HMe.out]
            rintro e wl ⟨a1, a2, a3, a4, rfl, X6, O6⟩
            obtain ⟨b1, d1, b2, d2, b3, d3, b4, d4, rfl, rfl, rfl, rfl⟩ := two_form O6 (k := 0) (k' := 0) rfl rfl
            have HX6 := Lib.hid X6
            have HO6 := Lib.hid O6
            clear O6
            (try go_wp2_with fail)
            refine hK.out _ _ ?_ (fun hHeld2 => ?_)
            · (try dsimp only); (obtain ⟨s0, s1, s2, s3, s4, s5⟩ := hHeld; exact ⟨cell_ext s0 X6, cell_ext s1 X6, cell_ext s2 X6, cell_ext s3 X6, cell_ext s4 X6, s5.trans X6⟩)
            clear hK K hHeld
            rename _ => hHeld
            (try simp only [List.getElem_toArray, List.getElem_cons_succ, List.getElem_cons_zero, Act.put, List.setIfInBounds_toArray, List.set_cons_zero, List.set_cons_succ])
            clear X6
            have HBX := (Bx.new wk.drew #[.slice none 0 0, .slice none 0 0, .slice none 0 0, .slice none 0 0] 34 wk.heap.size rfl).ext HX6.out
            have HOO := HO6.out
            have zk := HX6.out.size
            (try simp at zk)
            refine wpT_last (by kernel_rfl) (by kernel_rfl) rfl (fun K hK => ?_)
            have b0 := HBX.cell 0 _ rfl; have b1 := HBX.cell 1 _ rfl; have b2 := HBX.cell 2 _ rfl; have b3 := HBX.cell 3 _ rfl; have bf := HBX.fr; have bl := HBX.lt
            clear hHeld
            go_simp
            refine hK.out _ _ ?_
            clear hK K
            go_wp2_with fail
            go_meet
            exact ⟨_, _, _, _, _, rfl, Lib.hid ⟨Bx.set43 (Bx.set42 (Bx.set41 (Bx.set40 HBX _) _) _) _, (HOO.chg (put4 _ _ _ _ _ _) (by first | (simp; done) | (simp; omega))).view, Chg.ext (((xx0.trans (Ext.drew _)).trans (Ext.alloc _ _)).trans HX6.out) (put4 _ _ _ _ _ _) (by have := xx0.size; omega)⟩⟩
        case rest =>
          obtain ⟨g, a1, a2, a3, a4, rfl, HZ⟩ := hcut
          obtain ⟨wm, hwm⟩ : ∃ w, w = wc := ⟨_, rfl⟩
          subst hwm
          clear HM HR HRV r0 HRW
          have c0 := HZ.out.1.cell 0 _ rfl; have c1 := HZ.out.1.cell 1 _ rfl; have c2 := HZ.out.1.cell 2 _ rfl; have c3 := HZ.out.1.cell 3 _ rfl
          go_wp2_with fail
          refine (implEqualIn_c _ ((mrow s, []), (mrow s, [])) _ HZ.out.2.1).mono ?_
          rw [mr_equal hso.out]
          rintro e wn ⟨rfl, X6⟩
          replace HZ : Hid (Bx wn g [a1, a2, a3, a4] ∧ twoC.V wn [a1, a2, a3, a4] ((mrow s, []), (mrow s, [])) ∧ Ext W wn) := Lib.hid ⟨HZ.out.1.ext X6, twoC.vext HZ.out.2.1 X6, HZ.out.2.2.trans X6⟩
          clear X6 c0 c1 c2 c3
          have c0 := HZ.out.1.cell 0 _ rfl; have c1 := HZ.out.1.cell 1 _ rfl; have c2 := HZ.out.1.cell 2 _ rfl; have c3 := HZ.out.1.cell 3 _ rfl
          go_wp2_with fail
          refine (implRightAt_c _ ((mrow s, []), (mrow s, [])) 2 _ HZ.out.2.1).mono ?_
          rw [HR2.out]
          rintro e wo ⟨rv, rfl, X6, O6⟩
          obtain ⟨ta, tc, rfl⟩ := sl_form O6.view
          have HF := Lib.hid (HZ.out.2.2.trans X6)
          clear X6 O6 c0 c1 c2 c3
          (try simp only [List.length_cons, List.length_nil, Nat.zero_add])
          go_wp2
          go_ret
          exact ⟨rfl, HF.out⟩

set_option maxRecDepth 100000 in
theorem mirror_holds : Rows.FnMirrorSaid :=
  OpenClaim.holds_of_wide 10 Try.f10 rfl rfl rfl rfl rfl rfl rfl ⟨rfl, rfl, rfl, rfl, rfl⟩ rfl rfl rfl rfl rfl (by kernel_rfl) Try.func10 (by kernel_rfl)
    (of_decide_eq_true (by kernel_rfl)) (by unfold Func.isWrapper; rw [if_neg (of_decide_eq_false (by kernel_rfl))]; exact ⟨rfl, rfl⟩)
    (fun os started H enc _ => law_lifted (C := Try.checked) (f := 10) (fn := Try.f10) (s := Rows.fnMirrorSpec) (tb := 4) Try.own started (by kernel_rfl) Try.func10 Try.laidOut (of_decide_eq_true (by kernel_rfl)) rfl Try.underlying4 rfl
      (fun ds h => by match ds, h with | [_], _ => exact ⟨rfl, rfl, rfl⟩)
      (ChangeSpec.witness6 (enc := enc) (C := Try.checked) false ⟨#[], #[.slice none 0 0], []⟩ 8 (by kernel_rfl) (by kernel_rfl) (by kernel_rfl) (by kernel_rfl))
      mirror_c)

end Go.Proofs.Ytbapomhoipdanaa
