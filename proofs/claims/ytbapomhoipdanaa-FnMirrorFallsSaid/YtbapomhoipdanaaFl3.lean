/- Disks: the program's sync and crash. -/
import Derived.Test.YtbapomhoipdanaaFl2
set_option linter.unusedVariables false
set_option linter.unusedSimpArgs false
namespace Go.Proofs.Ytbapomhoipdanaa
open Go.RowKit Go.Sl


set_option maxHeartbeats 8000000 in
set_option maxRecDepth 20000 in
theorem implFallen_c (cs : List Value) (d : DiskD) (fv : Value) (fates : List Int) (w : World) (h : diskC.V w cs d) (hf : rowC.V w [fv] fates) :
    Calls Try.prog 72 #[.agg cs.toArray, fv] w fun e w' => ∃ u v, e = .returned (.agg #[u, v]) ∧ Ext w w' ∧ diskC.own w.heap.size w'.heap.size w' [u, v] (fallen d fates) := by
  have HD := Lib.hid h
  obtain ⟨u, v, rfl, hu, hv⟩ := disk_V.1 h
  obtain ⟨rs, ws⟩ := d
  simp only at hu hv
  obtain ⟨a, cap, rfl⟩ := sl_form hu
  obtain ⟨a', cap', rfl⟩ := sl_form hv
  clear hu hv h
  obtain ⟨fa, fc, rfl, f1, f2, hfc⟩ := row_open hf
  clear hf
  cases hd : diskOk (rs, ws)
  · have hr : fallen (rs, ws) fates = ([], []) := by unfold fallen; rw [hd]; simp
    rw [hr]; clear hr
    have Hd := Lib.hid hd; clear hd hfc
    go_enter Try.func72, Try.ntmps72
    go_wp2_with fail
    refine (implDiskOk_c _ (rs, ws) _ (diskC.vext HD.out (by repeat (first | with_reducible exact Ext.refl _ | with_reducible assumption | with_reducible refine Ext.pAlloc ?_ _ | ((with_reducible refine Ext.pSet ?_ ?_ _); rotate_left; (simp <;> omega)) | with_reducible refine Ext.pDrew ?_ | with_reducible refine Ext.pDrewN ?_ _)))).mono ?_
    rw [Hd.out]
    rintro e w1 ⟨rfl, Ew1⟩
    have Xw1 : Ext w w1 := Ext.trans (by repeat (first | with_reducible exact Ext.refl _ | with_reducible assumption | with_reducible refine Ext.pAlloc ?_ _ | ((with_reducible refine Ext.pSet ?_ ?_ _); rotate_left; (simp <;> omega)) | with_reducible refine Ext.pDrew ?_ | with_reducible refine Ext.pDrewN ?_ _)) Ew1
    have zw1 : w.heap.size + 1 + 1 ≤ w1.heap.size := by have := Ew1.size; (try simp at this); omega
    have B_d' : Bx w1 w.heap.size [.slice a rs.length cap, .slice a' ws.length cap'] := Bx.ext (by repeat (first | with_reducible assumption | with_reducible exact Bx.new _ _ _ _ rfl | ((with_reducible refine Bx.new _ _ _ _ ?_); simp; done) | with_reducible refine Bx.pAlloc ?_ _ | with_reducible refine Bx.pDrew ?_ | with_reducible refine Bx.pDrewN ?_ _ | with_reducible apply Bx.set10 | with_reducible apply Bx.set20 | with_reducible apply Bx.set21 | with_reducible apply Bx.set30 | with_reducible apply Bx.set31 | with_reducible apply Bx.set32 | with_reducible apply Bx.set40 | with_reducible apply Bx.set41 | with_reducible apply Bx.set42 | with_reducible apply Bx.set43 | ((with_reducible refine Bx.set_other ?_ ?_ _); rotate_left; (simp <;> omega)))) Ew1
    have B_r' : Bx w1 (w.heap.size + 1) [.slice none 0 0, .slice none 0 0] := Bx.ext (by repeat (first | with_reducible assumption | with_reducible exact Bx.new _ _ _ _ rfl | ((with_reducible refine Bx.new _ _ _ _ ?_); simp; done) | with_reducible refine Bx.pAlloc ?_ _ | with_reducible refine Bx.pDrew ?_ | with_reducible refine Bx.pDrewN ?_ _ | with_reducible apply Bx.set10 | with_reducible apply Bx.set20 | with_reducible apply Bx.set21 | with_reducible apply Bx.set30 | with_reducible apply Bx.set31 | with_reducible apply Bx.set32 | with_reducible apply Bx.set40 | with_reducible apply Bx.set41 | with_reducible apply Bx.set42 | with_reducible apply Bx.set43 | ((with_reducible refine Bx.set_other ?_ ?_ _); rotate_left; (simp <;> omega)))) Ew1
    have B_d := B_d'; clear B_d'
    have B_r := B_r'; clear B_r'
    clear Ew1
    have c_d_0 := B_d.cell 0 _ rfl
    have c_d_1 := B_d.cell 1 _ rfl
    have n_d := B_d.lt
    have c_r_0 := B_r.cell 0 _ rfl
    have c_r_1 := B_r.cell 1 _ rfl
    have n_r := B_r.lt
    have f_r := B_r.fr
    go_wp2
    refine bodyPost_ret (v := .agg #[.slice none 0 0, .slice none 0 0]) (by simp [results, Try.results72, go_sem, c_r_0, c_r_1]) rfl ⟨_, _, rfl, ?_, ?_⟩
    · repeat (first | with_reducible exact Ext.refl _ | with_reducible assumption | with_reducible refine Ext.pAlloc ?_ _ | ((with_reducible refine Ext.pSet ?_ ?_ _); rotate_left; (simp <;> omega)) | with_reducible refine Ext.pDrew ?_ | with_reducible refine Ext.pDrewN ?_ _)
    · exact prod_own (c := [_]) (d := [_]) (mid := w.heap.size) (sl_nil _ _ _) (sl_nil _ _ _) (Nat.le_refl _) (by simp [World.setCell]; omega)
  · have hr : fallen (rs, ws) fates = fallD (fateOf false fates) (rs, ws) := by unfold fallen; rw [hd]; simp
    rw [hr]; clear hr
    unfold fallD
    dsimp only
    obtain ⟨y1, y2, y3, y4, y5⟩ := diskOk_parts hd
    have Y1 := Lib.hid y1
    have Y2 := Lib.hid y2
    clear y1 y2
    have Hd := Lib.hid hd; clear hd
    go_enter Try.func72, Try.ntmps72
    go_wp2_with fail
    refine (implDiskOk_c _ (rs, ws) _ (diskC.vext HD.out (by repeat (first | with_reducible exact Ext.refl _ | with_reducible assumption | with_reducible refine Ext.pAlloc ?_ _ | ((with_reducible refine Ext.pSet ?_ ?_ _); rotate_left; (simp <;> omega)) | with_reducible refine Ext.pDrew ?_ | with_reducible refine Ext.pDrewN ?_ _)))).mono ?_
    rw [Hd.out]
    rintro e w1 ⟨rfl, Ew1⟩
    have Xw1 : Ext w w1 := Ext.trans (by repeat (first | with_reducible exact Ext.refl _ | with_reducible assumption | with_reducible refine Ext.pAlloc ?_ _ | ((with_reducible refine Ext.pSet ?_ ?_ _); rotate_left; (simp <;> omega)) | with_reducible refine Ext.pDrew ?_ | with_reducible refine Ext.pDrewN ?_ _)) Ew1
    have zw1 : w.heap.size + 1 + 1 ≤ w1.heap.size := by have := Ew1.size; (try simp at this); omega
    have B_d' : Bx w1 w.heap.size [.slice a rs.length cap, .slice a' ws.length cap'] := Bx.ext (by repeat (first | with_reducible assumption | with_reducible exact Bx.new _ _ _ _ rfl | ((with_reducible refine Bx.new _ _ _ _ ?_); simp; done) | with_reducible refine Bx.pAlloc ?_ _ | with_reducible refine Bx.pDrew ?_ | with_reducible refine Bx.pDrewN ?_ _ | with_reducible apply Bx.set10 | with_reducible apply Bx.set20 | with_reducible apply Bx.set21 | with_reducible apply Bx.set30 | with_reducible apply Bx.set31 | with_reducible apply Bx.set32 | with_reducible apply Bx.set40 | with_reducible apply Bx.set41 | with_reducible apply Bx.set42 | with_reducible apply Bx.set43 | ((with_reducible refine Bx.set_other ?_ ?_ _); rotate_left; (simp <;> omega)))) Ew1
    have B_r' : Bx w1 (w.heap.size + 1) [.slice none 0 0, .slice none 0 0] := Bx.ext (by repeat (first | with_reducible assumption | with_reducible exact Bx.new _ _ _ _ rfl | ((with_reducible refine Bx.new _ _ _ _ ?_); simp; done) | with_reducible refine Bx.pAlloc ?_ _ | with_reducible refine Bx.pDrew ?_ | with_reducible refine Bx.pDrewN ?_ _ | with_reducible apply Bx.set10 | with_reducible apply Bx.set20 | with_reducible apply Bx.set21 | with_reducible apply Bx.set30 | with_reducible apply Bx.set31 | with_reducible apply Bx.set32 | with_reducible apply Bx.set40 | with_reducible apply Bx.set41 | with_reducible apply Bx.set42 | with_reducible apply Bx.set43 | ((with_reducible refine Bx.set_other ?_ ?_ _); rotate_left; (simp <;> omega)))) Ew1
    have B_d := B_d'; clear B_d'
    have B_r := B_r'; clear B_r'
    clear Ew1
    have c_d_0 := B_d.cell 0 _ rfl
    have c_d_1 := B_d.cell 1 _ rfl
    have n_d := B_d.lt
    have c_r_0 := B_r.cell 0 _ rfl
    have c_r_1 := B_r.cell 1 _ rfl
    have n_r := B_r.lt
    have f_r := B_r.fr
    go_wp2_with fail
    refine (copyDisk_c _ (rs, ws) _ (diskC.vext HD.out (by repeat (first | with_reducible exact Ext.refl _ | with_reducible assumption | with_reducible refine Ext.pAlloc ?_ _ | ((with_reducible refine Ext.pSet ?_ ?_ _); rotate_left; (simp <;> omega)) | with_reducible refine Ext.pDrew ?_ | with_reducible refine Ext.pDrewN ?_ _))) Hd.out).mono ?_
    rintro e w2 ⟨u1, v1, rfl, E2, mid, hm1, hm2, O_ck, O_cw⟩
    simp only at O_ck O_cw
    obtain ⟨ka, kc, rfl⟩ := sl_form O_ck.view
    obtain ⟨kb, ko, rfl, nk1, nk2⟩ := own_addr O_ck (by decide) (by omega)
    obtain ⟨wa, wc, rfl⟩ := sl_form O_cw.view
    have hv0 : Mv w2 (w1.heap.size) w2.heap.size (w2.heap.size + 1) (w2.heap.size + 1) (.slice (some ⟨kb, ko, none⟩) rs.length kc) rs wa ws 0 := Mv.start (O_ck.wide (lo' := w1.heap.size) (by first | omega | (simp <;> omega)) (Nat.le_refl _)) O_cw (by first | omega | (simp <;> omega)) hm2
    replace nk1 : w1.heap.size ≤ kb := by (try simp at nk1); omega
    replace nk2 : kb < w2.heap.size := by omega
    clear O_ck O_cw
    have Xw2 : Ext w w2 := Ext.trans (by repeat (first | with_reducible exact Ext.refl _ | with_reducible assumption | with_reducible refine Ext.pAlloc ?_ _ | ((with_reducible refine Ext.pSet ?_ ?_ _); rotate_left; (simp <;> omega)) | with_reducible refine Ext.pDrew ?_ | with_reducible refine Ext.pDrewN ?_ _)) E2
    have zw2 : w1.heap.size ≤ w2.heap.size := by have := E2.size; (try simp at this); omega
    have B_d' : Bx w2 w.heap.size [.slice a rs.length cap, .slice a' ws.length cap'] := Bx.ext (by repeat (first | with_reducible assumption | with_reducible exact Bx.new _ _ _ _ rfl | ((with_reducible refine Bx.new _ _ _ _ ?_); simp; done) | with_reducible refine Bx.pAlloc ?_ _ | with_reducible refine Bx.pDrew ?_ | with_reducible refine Bx.pDrewN ?_ _ | with_reducible apply Bx.set10 | with_reducible apply Bx.set20 | with_reducible apply Bx.set21 | with_reducible apply Bx.set30 | with_reducible apply Bx.set31 | with_reducible apply Bx.set32 | with_reducible apply Bx.set40 | with_reducible apply Bx.set41 | with_reducible apply Bx.set42 | with_reducible apply Bx.set43 | ((with_reducible refine Bx.set_other ?_ ?_ _); rotate_left; (simp <;> omega)))) E2
    have B_r' : Bx w2 (w.heap.size + 1) [.slice none 0 0, .slice none 0 0] := Bx.ext (by repeat (first | with_reducible assumption | with_reducible exact Bx.new _ _ _ _ rfl | ((with_reducible refine Bx.new _ _ _ _ ?_); simp; done) | with_reducible refine Bx.pAlloc ?_ _ | with_reducible refine Bx.pDrew ?_ | with_reducible refine Bx.pDrewN ?_ _ | with_reducible apply Bx.set10 | with_reducible apply Bx.set20 | with_reducible apply Bx.set21 | with_reducible apply Bx.set30 | with_reducible apply Bx.set31 | with_reducible apply Bx.set32 | with_reducible apply Bx.set40 | with_reducible apply Bx.set41 | with_reducible apply Bx.set42 | with_reducible apply Bx.set43 | ((with_reducible refine Bx.set_other ?_ ?_ _); rotate_left; (simp <;> omega)))) E2
    clear c_d_0 c_d_1 n_d c_r_0 c_r_1 n_r f_r
    clear B_d
    have B_d := B_d'; clear B_d'
    clear B_r
    have B_r := B_r'; clear B_r'
    clear E2 Xw1
    have c_d_0 := B_d.cell 0 _ rfl
    have c_d_1 := B_d.cell 1 _ rfl
    have n_d := B_d.lt
    have c_r_0 := B_r.cell 0 _ rfl
    have c_r_1 := B_r.cell 1 _ rfl
    have n_r := B_r.lt
    have f_r := B_r.fr
    go_wp2
    go_loopw [6, 7, 8, 9, 19] (fun _ _ _ _ i wr => ∃ k : Nat, k ≤ ws.length ∧ i = .int .i64 k ∧ Bx wr (w.heap.size) [.slice a rs.length cap, .slice a' ws.length cap'] ∧ Bx wr (w.heap.size + 1) [.slice none 0 0, .slice none 0 0] ∧ Bx wr w2.heap.size [.slice (some ⟨kb, ko, none⟩) rs.length kc, .slice wa ws.length wc] ∧ Mv wr (w1.heap.size) w2.heap.size (w2.heap.size + 1) wr.heap.size (.slice (some ⟨kb, ko, none⟩) rs.length kc) (fallK (fateOf false fates) rs ws k) wa ws k ∧ Ext w wr ∧ w2.heap.size + 1 ≤ wr.heap.size) (fun _ _ _ _ i _ => ws.length - (intOf i).toNat)
    case atStart => exact ⟨0, Nat.zero_le _, rfl, by repeat (first | with_reducible assumption | with_reducible exact Bx.new _ _ _ _ rfl | ((with_reducible refine Bx.new _ _ _ _ ?_); simp; done) | with_reducible refine Bx.pAlloc ?_ _ | with_reducible refine Bx.pDrew ?_ | with_reducible refine Bx.pDrewN ?_ _ | with_reducible apply Bx.set10 | with_reducible apply Bx.set20 | with_reducible apply Bx.set21 | with_reducible apply Bx.set30 | with_reducible apply Bx.set31 | with_reducible apply Bx.set32 | with_reducible apply Bx.set40 | with_reducible apply Bx.set41 | with_reducible apply Bx.set42 | with_reducible apply Bx.set43 | ((with_reducible refine Bx.set_other ?_ ?_ _); rotate_left; (simp <;> omega))), by repeat (first | with_reducible assumption | with_reducible exact Bx.new _ _ _ _ rfl | ((with_reducible refine Bx.new _ _ _ _ ?_); simp; done) | with_reducible refine Bx.pAlloc ?_ _ | with_reducible refine Bx.pDrew ?_ | with_reducible refine Bx.pDrewN ?_ _ | with_reducible apply Bx.set10 | with_reducible apply Bx.set20 | with_reducible apply Bx.set21 | with_reducible apply Bx.set30 | with_reducible apply Bx.set31 | with_reducible apply Bx.set32 | with_reducible apply Bx.set40 | with_reducible apply Bx.set41 | with_reducible apply Bx.set42 | with_reducible apply Bx.set43 | ((with_reducible refine Bx.set_other ?_ ?_ _); rotate_left; (simp <;> omega))), by repeat (first | with_reducible assumption | with_reducible exact Bx.new _ _ _ _ rfl | ((with_reducible refine Bx.new _ _ _ _ ?_); simp; done) | with_reducible refine Bx.pAlloc ?_ _ | with_reducible refine Bx.pDrew ?_ | with_reducible refine Bx.pDrewN ?_ _ | with_reducible apply Bx.set10 | with_reducible apply Bx.set20 | with_reducible apply Bx.set21 | with_reducible apply Bx.set30 | with_reducible apply Bx.set31 | with_reducible apply Bx.set32 | with_reducible apply Bx.set40 | with_reducible apply Bx.set41 | with_reducible apply Bx.set42 | with_reducible apply Bx.set43 | ((with_reducible refine Bx.set_other ?_ ?_ _); rotate_left; (simp <;> omega))), (hv0.ext (Ext.alloc _ _)).wide (by simp), by repeat (first | with_reducible exact Ext.refl _ | with_reducible assumption | with_reducible refine Ext.pAlloc ?_ _ | ((with_reducible refine Ext.pSet ?_ ?_ _); rotate_left; (simp <;> omega)) | with_reducible refine Ext.pDrew ?_ | with_reducible refine Ext.pDrewN ?_ _), by simp⟩
    case round =>
      clear c_d_0 c_d_1 n_d c_r_0 c_r_1 n_r f_r
      clear B_d B_r hv0 Xw2
      obtain ⟨k, hk, rfl, B_d, B_r, B_o, hv, X, hzz⟩ := hrel
      by_cases hlt : k < ws.length
      · obtain ⟨x, hx⟩ : ∃ x, Hid (ws[k]? = some x) := ⟨ws[k], hidget hlt⟩
        obtain ⟨wb, wo, xa, xc, rfl, hc0, hc1, hvx, _, _⟩ := hv.next hx
        obtain ⟨hin, hrk⟩ := Y2.out x (List.mem_of_getElem? hx.out)
        have hlen := rowOk_len hrk
        simp only [inB, Bool.and_eq_true, decide_eq_true_eq] at hin
        obtain ⟨xn, xr⟩ := x
        simp only at hin hrk hlen hc0 hc1 hvx
        obtain ⟨m, rfl⟩ : ∃ m : Nat, xn = m := ⟨xn.toNat, by omega⟩
        have hm : m < rs.length := by omega
        have hm1i : (0 : Int) ≤ m := by omega
        have hm2i : (m : Int) < rs.length := by omega
        have HV := Lib.hid hvx
        have HC1 := Lib.hid hc1
        clear hvx hrk hin
        have hi1 : (0 : Int) ≤ k := by omega
        have hi2 : (k : Int) < ws.length := by omega
        have hsn := Lib.hid (fallK_snoc (fateOf false fates) rs ws k hx)
        have hfl := Lib.hid (fallK_len (fateOf false fates) rs ws k)
        have hml : m < (fallK (fateOf false fates) rs ws k).length := by rw [hfl.out]; exact hm
        obtain ⟨u0, cu, hvo, fu⟩ := own2_slot (m := m) rfl hv.rows hml
        have n_k : kb < wr.heap.size := World.block_lt_of_cell? _ _ cu
        have c_o := B_o.cell 0 _ rfl
        have n_o := B_o.lt
        have n_w := World.block_lt_of_cell? _ _ hc0
        by_cases hkf : k < fates.length
        · obtain ⟨fb, fo, f, rfl, hcf, hfx⟩ := hfc k hkf
          clear hfc
          have hcf' := cell_ext hcf X
          have n_f := World.block_lt_of_cell? _ _ hcf'
          clear hcf
          have hfk : (k : Int) < fates.length := by omega
          have hfg : fates.getD k 0 = f := by rw [List.getD_eq_getElem?_getD, hfx.out]; rfl
          have Hfg := Lib.hid hfg; clear hfg
          by_cases e1 : f = 1
          · subst e1
            have Hf := Lib.hid (show fateOf false fates k = 1 by simp [fateOf, Hfg.out, -List.getD_eq_getElem?_getD])
            go_wp2
            go_roundw
            case rel =>
              refine ⟨k + 1, by omega, by go_num, by repeat (first | with_reducible assumption | with_reducible exact Bx.new _ _ _ _ rfl | ((with_reducible refine Bx.new _ _ _ _ ?_); simp; done) | with_reducible refine Bx.pAlloc ?_ _ | with_reducible refine Bx.pDrew ?_ | with_reducible refine Bx.pDrewN ?_ _ | with_reducible apply Bx.set10 | with_reducible apply Bx.set20 | with_reducible apply Bx.set21 | with_reducible apply Bx.set30 | with_reducible apply Bx.set31 | with_reducible apply Bx.set32 | with_reducible apply Bx.set40 | with_reducible apply Bx.set41 | with_reducible apply Bx.set42 | with_reducible apply Bx.set43 | ((with_reducible refine Bx.set_other ?_ ?_ _); rotate_left; (simp <;> omega))), by repeat (first | with_reducible assumption | with_reducible exact Bx.new _ _ _ _ rfl | ((with_reducible refine Bx.new _ _ _ _ ?_); simp; done) | with_reducible refine Bx.pAlloc ?_ _ | with_reducible refine Bx.pDrew ?_ | with_reducible refine Bx.pDrewN ?_ _ | with_reducible apply Bx.set10 | with_reducible apply Bx.set20 | with_reducible apply Bx.set21 | with_reducible apply Bx.set30 | with_reducible apply Bx.set31 | with_reducible apply Bx.set32 | with_reducible apply Bx.set40 | with_reducible apply Bx.set41 | with_reducible apply Bx.set42 | with_reducible apply Bx.set43 | ((with_reducible refine Bx.set_other ?_ ?_ _); rotate_left; (simp <;> omega))), by repeat (first | with_reducible assumption | with_reducible exact Bx.new _ _ _ _ rfl | ((with_reducible refine Bx.new _ _ _ _ ?_); simp; done) | with_reducible refine Bx.pAlloc ?_ _ | with_reducible refine Bx.pDrew ?_ | with_reducible refine Bx.pDrewN ?_ _ | with_reducible apply Bx.set10 | with_reducible apply Bx.set20 | with_reducible apply Bx.set21 | with_reducible apply Bx.set30 | with_reducible apply Bx.set31 | with_reducible apply Bx.set32 | with_reducible apply Bx.set40 | with_reducible apply Bx.set41 | with_reducible apply Bx.set42 | with_reducible apply Bx.set43 | ((with_reducible refine Bx.set_other ?_ ?_ _); rotate_left; (simp <;> omega))), ?_, by repeat (first | with_reducible exact Ext.refl _ | with_reducible assumption | with_reducible refine Ext.pAlloc ?_ _ | ((with_reducible refine Ext.pSet ?_ ?_ _); rotate_left; (simp <;> omega)) | with_reducible refine Ext.pDrew ?_ | with_reducible refine Ext.pDrewN ?_ _), by first | omega | (simp <;> omega)⟩
              rw [hsn.out]
              unfold fallW
              rw [if_pos Hf.out, Int.toNat_natCast]
              refine Mv.wide (hi2 := wr.heap.size) ?_ (by simp [World.setCell])
              exact (Mv.move hv hx HC1.out hml).pAlloc _
            case measure => simp [intOf]; omega
          · have hb1 : (f == 1) = false := by rw [beq_eq_false_iff_ne]; exact e1
            by_cases e2 : f = 2
            · subst e2
              have Hf := Lib.hid (show ¬ fateOf false fates k = 1 ∧ fateOf false fates k = 2 by simp [fateOf, Hfg.out, -List.getD_eq_getElem?_getD])
              have hol := rowOk_len (fallK_ok Y1.out (fun y hy => (Y2.out y hy).2) k _ (List.getElem_mem hml))
              have Hgd := Lib.hid (show (fallK (fateOf false fates) rs ws k).getD m [] = (fallK (fateOf false fates) rs ws k)[m] by rw [List.getD_eq_getElem?_getD, List.getElem?_eq_getElem hml]; rfl)
              generalize (fallK (fateOf false fates) rs ws k)[m] = old at hvo hol Hgd
              obtain ⟨oa, oc, e⟩ := u_slice hvo
              subst e
              obtain ⟨ol, hol'⟩ : ∃ ol, ol = old.length := ⟨_, rfl⟩
              rw [← hol'] at cu hvo hol
              have HVo := Lib.hid hvo
              have Hol := Lib.hid hol'
              clear hvo hol'
              go_wp2
              refine wp_region_T (S := fun ω => ω.cell? ⟨wr.heap.size, 0, none⟩ = some (.int .i64 m) ∧ ω.cell? ⟨wr.heap.size, 1, none⟩ = some (.slice xa xr.length xc) ∧ ω.cell? ⟨w2.heap.size, 0, none⟩ = some (.slice (some ⟨kb, ko, none⟩) rs.length kc) ∧ ω.cell? ⟨kb, ko + m, none⟩ = some (.slice oa ol oc) ∧ Bx ω (w.heap.size) [.slice a rs.length cap, .slice a' ws.length cap'] ∧ Bx ω (w.heap.size + 1) [.slice none 0 0, .slice none 0 0] ∧ Bx ω (w2.heap.size) [.slice (some ⟨kb, ko, none⟩) rs.length kc, .slice (some ⟨wb, wo, none⟩) ws.length wc] ∧ Bx ω (wr.heap.size) [.int .i64 m, .slice xa xr.length xc] ∧ Ext wr ω) 9 (by kernel_rfl) ?_ (fun hHeld => ?_) (by decide)
              · (try dsimp only); (refine ⟨?_, ?_, ?_, ?_, ?_, ?_, ?_, ?_, ?_⟩ <;> first | (simp [go_sem]; done) | (simp [*, go_sem]; done) | ((repeat (first | with_reducible assumption | with_reducible exact Bx.new _ _ _ _ rfl | ((with_reducible refine Bx.new _ _ _ _ ?_); simp; done) | with_reducible refine Bx.pAlloc ?_ _ | with_reducible refine Bx.pDrew ?_ | with_reducible refine Bx.pDrewN ?_ _ | with_reducible apply Bx.set10 | with_reducible apply Bx.set20 | with_reducible apply Bx.set21 | with_reducible apply Bx.set30 | with_reducible apply Bx.set31 | with_reducible apply Bx.set32 | with_reducible apply Bx.set40 | with_reducible apply Bx.set41 | with_reducible apply Bx.set42 | with_reducible apply Bx.set43 | ((with_reducible refine Bx.set_other ?_ ?_ _); rotate_left; (simp <;> omega)))); done) | ((repeat (first | with_reducible exact Ext.refl _ | with_reducible assumption | with_reducible refine Ext.pAlloc ?_ _ | ((with_reducible refine Ext.pSet ?_ ?_ _); rotate_left; (simp <;> omega)) | with_reducible refine Ext.pDrew ?_ | with_reducible refine Ext.pDrewN ?_ _)); done))
              refine wpT_take (i := 0) (v := ?_) rfl (by kernel_rfl) (by decide) (by kernel_rfl) (by kernel_rfl) (by kernel_rfl) (fun _ _ _ h => h) (Or.inl ⟨by rfl, ?_⟩) (by assumption) ?_
              rotate_left
              · intro w9 hSw; (try dsimp only at hSw); go_simp; (first | done | with_reducible rfl)
              (try simp only [List.getElem_toArray, List.getElem_cons_succ, List.getElem_cons_zero, Act.put, List.setIfInBounds_toArray, List.set_cons_zero, List.set_cons_succ])
              refine wpT_take (i := 1) (v := ?_) rfl (by kernel_rfl) (by decide) (by kernel_rfl) (by kernel_rfl) (by kernel_rfl) (fun _ _ _ h => h) (Or.inl ⟨by rfl, ?_⟩) (by assumption) ?_
              rotate_left
              · intro w9 hSw; (try dsimp only at hSw); go_simp; (first | done | with_reducible rfl)
              (try simp only [List.getElem_toArray, List.getElem_cons_succ, List.getElem_cons_zero, Act.put, List.setIfInBounds_toArray, List.set_cons_zero, List.set_cons_succ])
              refine wpT_take (i := 2) (v := ?_) rfl (by kernel_rfl) (by decide) (by kernel_rfl) (by kernel_rfl) (by kernel_rfl) (fun _ _ _ h => h) (Or.inl ⟨by rfl, ?_⟩) (by assumption) ?_
              rotate_left
              · intro w9 hSw; (try dsimp only at hSw); go_simp; (first | done | with_reducible rfl)
              (try simp only [List.getElem_toArray, List.getElem_cons_succ, List.getElem_cons_zero, Act.put, List.setIfInBounds_toArray, List.set_cons_zero, List.set_cons_succ])
              refine wpT_take (i := 3) (v := ?_) rfl (by kernel_rfl) (by decide) (by kernel_rfl) (by kernel_rfl) (by kernel_rfl) (fun _ _ _ h => h) (Or.inl ⟨by rfl, ?_⟩) (by assumption) ?_
              rotate_left
              · intro w9 hSw; (try dsimp only at hSw); go_simp; (first | done | with_reducible rfl)
              (try simp only [List.getElem_toArray, List.getElem_cons_succ, List.getElem_cons_zero, Act.put, List.setIfInBounds_toArray, List.set_cons_zero, List.set_cons_succ])
              refine wpT_take (i := 4) (v := ?_) rfl (by kernel_rfl) (by decide) (by kernel_rfl) (by kernel_rfl) (by kernel_rfl) (fun _ _ _ h => h) (Or.inl ⟨by rfl, ?_⟩) (by assumption) ?_
              rotate_left
              · intro w9 hSw; (try dsimp only at hSw); go_simp; (first | done | with_reducible rfl)
              (try simp only [List.getElem_toArray, List.getElem_cons_succ, List.getElem_cons_zero, Act.put, List.setIfInBounds_toArray, List.set_cons_zero, List.set_cons_succ])
              refine wpT_take (i := 5) (v := ?_) rfl (by kernel_rfl) (by decide) (by kernel_rfl) (by kernel_rfl) (by kernel_rfl) (fun _ _ _ h => h) (Or.inl ⟨by rfl, ?_⟩) (by assumption) ?_
              rotate_left
              · intro w9 hSw; (try dsimp only at hSw); go_simp; (first | done | with_reducible rfl)
              (try simp only [List.getElem_toArray, List.getElem_cons_succ, List.getElem_cons_zero, Act.put, List.setIfInBounds_toArray, List.set_cons_zero, List.set_cons_succ])
              refine wpT_take (i := 6) (v := ?_) rfl (by kernel_rfl) (by decide) (by kernel_rfl) (by kernel_rfl) (by kernel_rfl) (fun _ _ _ h => h) (Or.inl ⟨by rfl, ?_⟩) (by assumption) ?_
              rotate_left
              · intro w9 hSw; (try dsimp only at hSw); go_simp; (first | done | with_reducible rfl)
              (try simp only [List.getElem_toArray, List.getElem_cons_succ, List.getElem_cons_zero, Act.put, List.setIfInBounds_toArray, List.set_cons_zero, List.set_cons_succ])
              refine wpT_take (i := 7) (v := ?_) rfl (by kernel_rfl) (by decide) (by kernel_rfl) (by kernel_rfl) (by kernel_rfl) (fun _ _ _ h => h) (Or.inl ⟨by rfl, ?_⟩) (by assumption) ?_
              rotate_left
              · intro w9 hSw; (try dsimp only at hSw); go_simp; (first | done | with_reducible rfl)
              (try simp only [List.getElem_toArray, List.getElem_cons_succ, List.getElem_cons_zero, Act.put, List.setIfInBounds_toArray, List.set_cons_zero, List.set_cons_succ])
              refine wpT_step (i := 8) (by kernel_rfl) (by decide) rfl (fun K hK => ?_)
              go_simp
              refine (torn_c _ _ xr old _ (rowC.vext HV.out hHeld.2.2.2.2.2.2.2.2) (rowC.vext HVo.out hHeld.2.2.2.2.2.2.2.2) (by omega) (by rw [← Hol.out]; omega)).mono ?_
              rintro e w4 ⟨u2, rfl, hE2, hO2⟩
              obtain ⟨ua2, uc2, e2⟩ := u_slice hO2.view
              subst e2
              have hEw : Ext wr w4 := Ext.trans (by repeat (first | with_reducible exact Ext.refl _ | with_reducible assumption | with_reducible refine Ext.pAlloc ?_ _ | ((with_reducible refine Ext.pSet ?_ ?_ _); rotate_left; (simp <;> omega)) | with_reducible refine Ext.pDrew ?_ | with_reducible refine Ext.pDrewN ?_ _)) hE2
              replace hO2 := hO2.wide (lo' := wr.heap.size + 1) (hi' := w4.heap.size) (by first | omega | (simp <;> omega)) (Nat.le_refl _)
              have hz2 : wr.heap.size + 1 ≤ w4.heap.size := by have := hE2.size; (try simp at this); omega
              (try go_wp2_with fail)
              refine hK.out _ _ ?_ (fun hHeld2 => ?_)
              · (try dsimp only); (obtain ⟨s0, s1, s2, s3, s4, s5, s6, s7, s8⟩ := hHeld; exact ⟨cell_ext s0 hE2, cell_ext s1 hE2, cell_ext s2 hE2, cell_ext s3 hE2, Bx.ext s4 hE2, Bx.ext s5 hE2, Bx.ext s6 hE2, Bx.ext s7 hE2, s8.trans hE2⟩)
              clear hK K hHeld
              rename _ => hHeld
              (try simp only [List.getElem_toArray, List.getElem_cons_succ, List.getElem_cons_zero, Act.put, List.setIfInBounds_toArray, List.set_cons_zero, List.set_cons_succ])
              refine wpT_last (by kernel_rfl) (by kernel_rfl) rfl (fun K hK => ?_)
              obtain ⟨e0, e1, e2, e3, e4, e5, e6, e7, e8⟩ := hHeld
              clear c_o hc0 hc1 n_o cu fu hcf' n_f e0 e1 e2 e3
              go_simp
              refine hK.out _ _ ?_
              clear hK K
              have c_o := e6.cell 0 _ rfl
              have n_o := e6.lt
              have c_w := e7.cell 0 _ rfl
              have n_w := e7.lt
              obtain ⟨u0, cu2, _, fu⟩ := own2_slot (m := m) rfl (hv.ext hEw).rows hml
              have n_k2 : kb < w4.heap.size := by omega
              go_wp2
              have X2 : Ext w w4 := X.trans hEw
              go_roundw
              case rel =>
                refine ⟨k + 1, by omega, by go_num, by repeat (first | with_reducible assumption | with_reducible exact Bx.new _ _ _ _ rfl | ((with_reducible refine Bx.new _ _ _ _ ?_); simp; done) | with_reducible refine Bx.pAlloc ?_ _ | with_reducible refine Bx.pDrew ?_ | with_reducible refine Bx.pDrewN ?_ _ | with_reducible apply Bx.set10 | with_reducible apply Bx.set20 | with_reducible apply Bx.set21 | with_reducible apply Bx.set30 | with_reducible apply Bx.set31 | with_reducible apply Bx.set32 | with_reducible apply Bx.set40 | with_reducible apply Bx.set41 | with_reducible apply Bx.set42 | with_reducible apply Bx.set43 | ((with_reducible refine Bx.set_other ?_ ?_ _); rotate_left; (simp <;> omega))), by repeat (first | with_reducible assumption | with_reducible exact Bx.new _ _ _ _ rfl | ((with_reducible refine Bx.new _ _ _ _ ?_); simp; done) | with_reducible refine Bx.pAlloc ?_ _ | with_reducible refine Bx.pDrew ?_ | with_reducible refine Bx.pDrewN ?_ _ | with_reducible apply Bx.set10 | with_reducible apply Bx.set20 | with_reducible apply Bx.set21 | with_reducible apply Bx.set30 | with_reducible apply Bx.set31 | with_reducible apply Bx.set32 | with_reducible apply Bx.set40 | with_reducible apply Bx.set41 | with_reducible apply Bx.set42 | with_reducible apply Bx.set43 | ((with_reducible refine Bx.set_other ?_ ?_ _); rotate_left; (simp <;> omega))), by repeat (first | with_reducible assumption | with_reducible exact Bx.new _ _ _ _ rfl | ((with_reducible refine Bx.new _ _ _ _ ?_); simp; done) | with_reducible refine Bx.pAlloc ?_ _ | with_reducible refine Bx.pDrew ?_ | with_reducible refine Bx.pDrewN ?_ _ | with_reducible apply Bx.set10 | with_reducible apply Bx.set20 | with_reducible apply Bx.set21 | with_reducible apply Bx.set30 | with_reducible apply Bx.set31 | with_reducible apply Bx.set32 | with_reducible apply Bx.set40 | with_reducible apply Bx.set41 | with_reducible apply Bx.set42 | with_reducible apply Bx.set43 | ((with_reducible refine Bx.set_other ?_ ?_ _); rotate_left; (simp <;> omega))), ?_, by repeat (first | with_reducible exact Ext.refl _ | with_reducible assumption | with_reducible refine Ext.pAlloc ?_ _ | ((with_reducible refine Ext.pSet ?_ ?_ _); rotate_left; (simp <;> omega)) | with_reducible refine Ext.pDrew ?_ | with_reducible refine Ext.pDrewN ?_ _), by first | omega | (simp <;> omega)⟩
                rw [hsn.out]
                unfold fallW
                rw [if_neg Hf.out.1, if_pos Hf.out.2, Int.toNat_natCast]
                show Mv _ _ _ _ _ _ ((fallK (fateOf false fates) rs ws k).set m (tornR xr ((fallK (fateOf false fates) rs ws k).getD m []))) _ _ _
                rw [Hgd.out]
                exact (Mv.put' ((hv.ext hEw).pass hx) hml hO2 (by omega) (by omega) (by omega) (by omega)).wide (by simp [World.setCell])
              case measure => simp [intOf]; omega
            · have hb2 : (f == 2) = false := by rw [beq_eq_false_iff_ne]; exact e2
              have Hf := Lib.hid (show ¬ fateOf false fates k = 1 ∧ ¬ fateOf false fates k = 2 by simp [fateOf, Hfg.out, e1, e2, -List.getD_eq_getElem?_getD]); clear e1 e2
              go_wp2
              go_roundw
              case rel =>
                refine ⟨k + 1, by omega, by go_num, by repeat (first | with_reducible assumption | with_reducible exact Bx.new _ _ _ _ rfl | ((with_reducible refine Bx.new _ _ _ _ ?_); simp; done) | with_reducible refine Bx.pAlloc ?_ _ | with_reducible refine Bx.pDrew ?_ | with_reducible refine Bx.pDrewN ?_ _ | with_reducible apply Bx.set10 | with_reducible apply Bx.set20 | with_reducible apply Bx.set21 | with_reducible apply Bx.set30 | with_reducible apply Bx.set31 | with_reducible apply Bx.set32 | with_reducible apply Bx.set40 | with_reducible apply Bx.set41 | with_reducible apply Bx.set42 | with_reducible apply Bx.set43 | ((with_reducible refine Bx.set_other ?_ ?_ _); rotate_left; (simp <;> omega))), by repeat (first | with_reducible assumption | with_reducible exact Bx.new _ _ _ _ rfl | ((with_reducible refine Bx.new _ _ _ _ ?_); simp; done) | with_reducible refine Bx.pAlloc ?_ _ | with_reducible refine Bx.pDrew ?_ | with_reducible refine Bx.pDrewN ?_ _ | with_reducible apply Bx.set10 | with_reducible apply Bx.set20 | with_reducible apply Bx.set21 | with_reducible apply Bx.set30 | with_reducible apply Bx.set31 | with_reducible apply Bx.set32 | with_reducible apply Bx.set40 | with_reducible apply Bx.set41 | with_reducible apply Bx.set42 | with_reducible apply Bx.set43 | ((with_reducible refine Bx.set_other ?_ ?_ _); rotate_left; (simp <;> omega))), by repeat (first | with_reducible assumption | with_reducible exact Bx.new _ _ _ _ rfl | ((with_reducible refine Bx.new _ _ _ _ ?_); simp; done) | with_reducible refine Bx.pAlloc ?_ _ | with_reducible refine Bx.pDrew ?_ | with_reducible refine Bx.pDrewN ?_ _ | with_reducible apply Bx.set10 | with_reducible apply Bx.set20 | with_reducible apply Bx.set21 | with_reducible apply Bx.set30 | with_reducible apply Bx.set31 | with_reducible apply Bx.set32 | with_reducible apply Bx.set40 | with_reducible apply Bx.set41 | with_reducible apply Bx.set42 | with_reducible apply Bx.set43 | ((with_reducible refine Bx.set_other ?_ ?_ _); rotate_left; (simp <;> omega))), ?_, by repeat (first | with_reducible exact Ext.refl _ | with_reducible assumption | with_reducible refine Ext.pAlloc ?_ _ | ((with_reducible refine Ext.pSet ?_ ?_ _); rotate_left; (simp <;> omega)) | with_reducible refine Ext.pDrew ?_ | with_reducible refine Ext.pDrewN ?_ _), by first | omega | (simp <;> omega)⟩
                rw [hsn.out]
                unfold fallW
                rw [if_neg Hf.out.1, if_neg Hf.out.2]
                exact (Mv.pass (hv.ext (Ext.alloc _ _)) hx).wide (by simp)
              case measure => simp [intOf]; omega
        · have hfk : ¬ (k : Int) < fates.length := by omega
          have hfg : fates.getD k 0 = 0 := by rw [List.getD_eq_getElem?_getD, List.getElem?_eq_none (by omega)]; rfl
          have Hf := Lib.hid (show ¬ fateOf false fates k = 1 ∧ ¬ fateOf false fates k = 2 by simp [fateOf, hfg, -List.getD_eq_getElem?_getD]); clear hfg hfc
          go_wp2
          go_roundw
          case rel =>
            refine ⟨k + 1, by omega, by go_num, by repeat (first | with_reducible assumption | with_reducible exact Bx.new _ _ _ _ rfl | ((with_reducible refine Bx.new _ _ _ _ ?_); simp; done) | with_reducible refine Bx.pAlloc ?_ _ | with_reducible refine Bx.pDrew ?_ | with_reducible refine Bx.pDrewN ?_ _ | with_reducible apply Bx.set10 | with_reducible apply Bx.set20 | with_reducible apply Bx.set21 | with_reducible apply Bx.set30 | with_reducible apply Bx.set31 | with_reducible apply Bx.set32 | with_reducible apply Bx.set40 | with_reducible apply Bx.set41 | with_reducible apply Bx.set42 | with_reducible apply Bx.set43 | ((with_reducible refine Bx.set_other ?_ ?_ _); rotate_left; (simp <;> omega))), by repeat (first | with_reducible assumption | with_reducible exact Bx.new _ _ _ _ rfl | ((with_reducible refine Bx.new _ _ _ _ ?_); simp; done) | with_reducible refine Bx.pAlloc ?_ _ | with_reducible refine Bx.pDrew ?_ | with_reducible refine Bx.pDrewN ?_ _ | with_reducible apply Bx.set10 | with_reducible apply Bx.set20 | with_reducible apply Bx.set21 | with_reducible apply Bx.set30 | with_reducible apply Bx.set31 | with_reducible apply Bx.set32 | with_reducible apply Bx.set40 | with_reducible apply Bx.set41 | with_reducible apply Bx.set42 | with_reducible apply Bx.set43 | ((with_reducible refine Bx.set_other ?_ ?_ _); rotate_left; (simp <;> omega))), by repeat (first | with_reducible assumption | with_reducible exact Bx.new _ _ _ _ rfl | ((with_reducible refine Bx.new _ _ _ _ ?_); simp; done) | with_reducible refine Bx.pAlloc ?_ _ | with_reducible refine Bx.pDrew ?_ | with_reducible refine Bx.pDrewN ?_ _ | with_reducible apply Bx.set10 | with_reducible apply Bx.set20 | with_reducible apply Bx.set21 | with_reducible apply Bx.set30 | with_reducible apply Bx.set31 | with_reducible apply Bx.set32 | with_reducible apply Bx.set40 | with_reducible apply Bx.set41 | with_reducible apply Bx.set42 | with_reducible apply Bx.set43 | ((with_reducible refine Bx.set_other ?_ ?_ _); rotate_left; (simp <;> omega))), ?_, by repeat (first | with_reducible exact Ext.refl _ | with_reducible assumption | with_reducible refine Ext.pAlloc ?_ _ | ((with_reducible refine Ext.pSet ?_ ?_ _); rotate_left; (simp <;> omega)) | with_reducible refine Ext.pDrew ?_ | with_reducible refine Ext.pDrewN ?_ _), by first | omega | (simp <;> omega)⟩
            rw [hsn.out]
            unfold fallW
            rw [if_neg Hf.out.1, if_neg Hf.out.2]
            exact (Mv.pass (hv.ext (Ext.alloc _ _)) hx).wide (by simp)
          case measure => simp [intOf]; omega
      · have he : k = ws.length := by omega
        subst he
        have O_q := hv.rows
        have c0 := B_o.cell 0 _ rfl
        have c1 := B_o.cell 1 _ rfl
        have f_o := B_o.fr
        have n_o := B_o.lt
        have d0 := B_r.cell 0 _ rfl
        have d1 := B_r.cell 1 _ rfl
        have f_r := B_r.fr
        have n_r := B_r.lt
        clear hfc
        go_wp2
        refine bodyPost_ret (v := .agg #[.slice (some ⟨kb, ko, none⟩) rs.length kc, .slice none 0 0]) (by simp [results, Try.results72, go_sem, d0, d1]) rfl ⟨_, _, rfl, ?_, ?_⟩
        · repeat (first | with_reducible exact Ext.refl _ | with_reducible assumption | with_reducible refine Ext.pAlloc ?_ _ | ((with_reducible refine Ext.pSet ?_ ?_ _); rotate_left; (simp <;> omega)) | with_reducible refine Ext.pDrew ?_ | with_reducible refine Ext.pDrewN ?_ _)
        · exact Cd.own.wide (prod_own (c := [_]) (d := [_]) (mid := wr.heap.size) (hi := wr.heap.size) (Cd.own2.own (R := rowsC) (lo := w1.heap.size) (hi := w2.heap.size) (lo2 := w2.heap.size + 1) (by repeat (first | with_reducible assumption | ((with_reducible refine Cd.own2.set ?_ ?_ _); rotate_left; (simp <;> omega)) | (with_reducible refine Cd.own2.ext ?_ (Ext.alloc _ _)) | (with_reducible refine Cd.own2.ext ?_ (Ext.drew _)))) (by omega) (by omega)) (sl_nil _ _ _) (by omega) (Nat.le_refl _)) (by omega) (by simp [World.setCell])

end Go.Proofs.Ytbapomhoipdanaa
