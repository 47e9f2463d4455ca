/- Disks: a crash, and a sync. -/
import Derived.Test.YtbapomhoipdanaaPut
set_option linter.unusedVariables false
set_option linter.unusedSimpArgs false
namespace Go.Proofs.Ytbapomhoipdanaa
open Go.RowKit Go.Sl

set_option maxHeartbeats 16000000 in
set_option maxRecDepth 20000 in
theorem l3Fall_c (cs : List Value) (d : DiskD) (fv : Value) (fates : List Int) (all : Bool) (w : World) (h : diskC.V w cs d) (hf : rowC.V w [fv] fates) (hok : diskOk d = true) :
    Calls Try.prog 95 #[.agg cs.toArray, fv, .bool all] w fun e w' => ∃ u v, e = .returned (.agg #[u, v]) ∧ Ext w w' ∧ diskC.own w.heap.size w'.heap.size w' [u, v] (fallD (fateOf all fates) d) := by
  obtain ⟨u, v, rfl, hu, hv⟩ := disk_V.1 h
  have HD := Lib.hid h
  obtain ⟨rs, ws⟩ := d
  obtain ⟨y1, y2, y3, y4, y5⟩ := diskOk_parts hok
  simp only at hu hv
  obtain ⟨a, cap, rfl⟩ := sl_form hu
  obtain ⟨a', cap', rfl, h1', h2', hc'⟩ := slice_open (R := writeC) (by decide) hv
  obtain ⟨fa, fc, rfl, f1, f2, hfc⟩ := row_open hf
  have Y1 := Lib.hid y1
  have Y2 := Lib.hid y2
  have Hok := Lib.hid hok
  clear hu hv h hf y1 y2 hok
  unfold fallD
  dsimp only
  have hfd : ∀ (w : World) (a b : Option Addr) (n m c e : Nat), (Instr.field 32 (.agg #[.slice a n c, .slice b m e]) 0).run Try.prog w = .ok (.slice a n c) w := fun _ _ _ _ _ _ _ => by kernel_rfl
  go_enter Try.func95, Try.ntmps95
  go_wp2_with fail
  refine (l3Copy_c _ (rs, ws) _ (diskC.vext HD.out (by repeat (first | with_reducible exact Ext.refl _ | with_reducible assumption | with_reducible refine Ext.pAlloc ?_ _ | ((with_reducible refine Ext.pSet ?_ ?_ _); rotate_left; (simp <;> omega)) | with_reducible refine Ext.pDrew ?_ | with_reducible refine Ext.pDrewN ?_ _))) Hok.out).mono ?_
  rintro e w1 ⟨u1, v1, rfl, E1, mid, hm1, hm2, O_ck, O_cw⟩
  simp only at O_ck O_cw
  obtain ⟨wa, wc, rfl⟩ := sl_form O_cw.view
  clear O_cw
  obtain ⟨ka, kc, rfl⟩ := sl_form O_ck.view
  obtain ⟨kb, ko, rfl, nk1, nk2⟩ := own_addr O_ck (by decide) (by omega)
  replace O_ck := O_ck.wide (lo' := w.heap.size + 1 + 1) (by first | omega | (simp <;> omega)) (Nat.le_refl _)
  replace nk1 : w.heap.size + 1 + 1 ≤ kb := by (try simp at nk1); omega
  have Xw1 : Ext w w1 := Ext.trans (by repeat (first | with_reducible exact Ext.refl _ | with_reducible assumption | with_reducible refine Ext.pAlloc ?_ _ | ((with_reducible refine Ext.pSet ?_ ?_ _); rotate_left; (simp <;> omega)) | with_reducible refine Ext.pDrew ?_ | with_reducible refine Ext.pDrewN ?_ _)) E1
  have zw1 : w.heap.size + 1 + 1 ≤ w1.heap.size := by have := E1.size; (try simp at this); omega
  have B_d' : Bx w1 w.heap.size [.slice a rs.length cap, .slice a' ws.length cap'] := Bx.ext (by repeat (first | with_reducible assumption | with_reducible exact Bx.new _ _ _ _ rfl | ((with_reducible refine Bx.new _ _ _ _ ?_); simp; done) | with_reducible refine Bx.pAlloc ?_ _ | with_reducible refine Bx.pDrew ?_ | with_reducible refine Bx.pDrewN ?_ _ | with_reducible apply Bx.set10 | with_reducible apply Bx.set20 | with_reducible apply Bx.set21 | with_reducible apply Bx.set30 | with_reducible apply Bx.set31 | with_reducible apply Bx.set32 | with_reducible apply Bx.set40 | with_reducible apply Bx.set41 | with_reducible apply Bx.set42 | with_reducible apply Bx.set43 | ((with_reducible refine Bx.set_other ?_ ?_ _); rotate_left; (simp <;> omega)))) E1
  have B_r' : Bx w1 (w.heap.size + 1) [.slice none 0 0, .slice none 0 0] := Bx.ext (by repeat (first | with_reducible assumption | with_reducible exact Bx.new _ _ _ _ rfl | ((with_reducible refine Bx.new _ _ _ _ ?_); simp; done) | with_reducible refine Bx.pAlloc ?_ _ | with_reducible refine Bx.pDrew ?_ | with_reducible refine Bx.pDrewN ?_ _ | with_reducible apply Bx.set10 | with_reducible apply Bx.set20 | with_reducible apply Bx.set21 | with_reducible apply Bx.set30 | with_reducible apply Bx.set31 | with_reducible apply Bx.set32 | with_reducible apply Bx.set40 | with_reducible apply Bx.set41 | with_reducible apply Bx.set42 | with_reducible apply Bx.set43 | ((with_reducible refine Bx.set_other ?_ ?_ _); rotate_left; (simp <;> omega)))) E1
  have B_d := B_d'; clear B_d'
  have B_r := B_r'; clear B_r'
  clear E1
  have c_d_0 := B_d.cell 0 _ rfl
  have c_d_1 := B_d.cell 1 _ rfl
  have n_d := B_d.lt
  have c_r_0 := B_r.cell 0 _ rfl
  have c_r_1 := B_r.cell 1 _ rfl
  have n_r := B_r.lt
  have f_r := B_r.fr
  go_wp2
  go_loopw [8, 9, 10] (fun i _ _ wr => ∃ k : Nat, k ≤ ws.length ∧ i = .int .i64 k ∧ Bx wr (w.heap.size) [.slice a rs.length cap, .slice a' ws.length cap'] ∧ Bx wr (w.heap.size + 1) [.slice none 0 0, .slice none 0 0] ∧ Bx wr w1.heap.size [.slice (some ⟨kb, ko, none⟩) rs.length kc, .slice none 0 0] ∧ rowsC.own2 (w.heap.size + 1 + 1) mid (w1.heap.size + 1) wr.heap.size wr [.slice (some ⟨kb, ko, none⟩) rs.length kc] (fallK (fateOf all fates) rs ws k) ∧ Ext w wr ∧ w1.heap.size + 1 ≤ wr.heap.size) (fun i _ _ _ => ws.length - (intOf i).toNat)
  case atStart => exact ⟨0, Nat.zero_le _, rfl, by repeat (first | with_reducible assumption | with_reducible exact Bx.new _ _ _ _ rfl | ((with_reducible refine Bx.new _ _ _ _ ?_); simp; done) | with_reducible refine Bx.pAlloc ?_ _ | with_reducible refine Bx.pDrew ?_ | with_reducible refine Bx.pDrewN ?_ _ | with_reducible apply Bx.set10 | with_reducible apply Bx.set20 | with_reducible apply Bx.set21 | with_reducible apply Bx.set30 | with_reducible apply Bx.set31 | with_reducible apply Bx.set32 | with_reducible apply Bx.set40 | with_reducible apply Bx.set41 | with_reducible apply Bx.set42 | with_reducible apply Bx.set43 | ((with_reducible refine Bx.set_other ?_ ?_ _); rotate_left; (simp <;> omega))), by repeat (first | with_reducible assumption | with_reducible exact Bx.new _ _ _ _ rfl | ((with_reducible refine Bx.new _ _ _ _ ?_); simp; done) | with_reducible refine Bx.pAlloc ?_ _ | with_reducible refine Bx.pDrew ?_ | with_reducible refine Bx.pDrewN ?_ _ | with_reducible apply Bx.set10 | with_reducible apply Bx.set20 | with_reducible apply Bx.set21 | with_reducible apply Bx.set30 | with_reducible apply Bx.set31 | with_reducible apply Bx.set32 | with_reducible apply Bx.set40 | with_reducible apply Bx.set41 | with_reducible apply Bx.set42 | with_reducible apply Bx.set43 | ((with_reducible refine Bx.set_other ?_ ?_ _); rotate_left; (simp <;> omega))), by repeat (first | with_reducible assumption | with_reducible exact Bx.new _ _ _ _ rfl | ((with_reducible refine Bx.new _ _ _ _ ?_); simp; done) | with_reducible refine Bx.pAlloc ?_ _ | with_reducible refine Bx.pDrew ?_ | with_reducible refine Bx.pDrewN ?_ _ | with_reducible apply Bx.set10 | with_reducible apply Bx.set20 | with_reducible apply Bx.set21 | with_reducible apply Bx.set30 | with_reducible apply Bx.set31 | with_reducible apply Bx.set32 | with_reducible apply Bx.set40 | with_reducible apply Bx.set41 | with_reducible apply Bx.set42 | with_reducible apply Bx.set43 | ((with_reducible refine Bx.set_other ?_ ?_ _); rotate_left; (simp <;> omega))), Cd.own.own2 (x := rs) (by repeat (first | with_reducible assumption | with_reducible refine Cd.own.pAlloc ?_ _ | with_reducible refine Cd.own.pDrew ?_ | with_reducible refine Cd.own.pDrewN ?_ _ | ((with_reducible refine Cd.own.pSet ?_ ?_ _); rotate_left; (simp <;> omega)))), by repeat (first | with_reducible exact Ext.refl _ | with_reducible assumption | with_reducible refine Ext.pAlloc ?_ _ | ((with_reducible refine Ext.pSet ?_ ?_ _); rotate_left; (simp <;> omega)) | with_reducible refine Ext.pDrew ?_ | with_reducible refine Ext.pDrewN ?_ _), by simp⟩
  case round =>
    clear c_d_0 c_d_1 n_d c_r_0 c_r_1 n_r f_r
    clear B_d B_r O_ck Xw1 hfd
    obtain ⟨k, hk, rfl, B_d, B_r, B_o, O_k, X, hzz⟩ := hrel
    by_cases hlt : k < ws.length
    · obtain ⟨b, off, x, c, rfl, hx, hvx, hcell⟩ := hc' k hlt
      clear hc'
      obtain ⟨y, rfl, hvy⟩ := write_V.1 hvx
      obtain ⟨hin, hrk⟩ := Y2.out x (List.mem_of_getElem? hx.out)
      have hlen := rowOk_len hrk
      simp only [inB, Bool.and_eq_true, decide_eq_true_eq] at hin
      obtain ⟨xn, xr⟩ := x
      simp only at hin hrk hlen hvy
      obtain ⟨m, rfl⟩ : ∃ m : Nat, xn = m := ⟨xn.toNat, by omega⟩
      have hm : m < rs.length := by omega
      have hm1i : (0 : Int) ≤ m := by omega
      have hm2i : (m : Int) < rs.length := by omega
      obtain ⟨xa, xc, rfl⟩ := u_slice hvy
      have HV := Lib.hid (rowC.vext hvy X)
      have hc0 : wr.cell? ⟨b, off + k * 2, none⟩ = some (.int .i64 m) := cell_ext (hcell 0 _ rfl) X
      have hc1 : wr.cell? ⟨b, off + k * 2 + 1, none⟩ = some (.slice xa xr.length xc) := cell_ext (hcell 1 _ rfl) X
      clear hvx hvy hcell hrk hin
      have hi1 : (0 : Int) ≤ k := by omega
      have hi2 : (k : Int) < ws.length := by omega
      have hsn := Lib.hid (fallK_snoc (fateOf all fates) rs ws k hx)
      have hfl := Lib.hid (fallK_len (fateOf all fates) rs ws k)
      have c_d := B_d.cell 1 _ rfl
      have c_o := B_o.cell 0 _ rfl
      have n_d := B_d.lt
      have n_o := B_o.lt
      by_cases hkf : k < fates.length
      · obtain ⟨fb, fo, f, rfl, hcf, hfx⟩ := hfc k hkf
        clear hfc
        have hcf' := cell_ext hcf X
        have n_f := World.block_lt_of_cell? _ _ hcf'
        clear hcf
        have hfk : (k : Int) < fates.length := by omega
        have hfg : fates.getD k 0 = f := by rw [List.getD_eq_getElem?_getD, hfx.out]; rfl
        have Hfg := Lib.hid hfg; clear hfg
        cases all
        · by_cases e1 : f = 1
          · subst e1
            have Hf := Lib.hid (show fateOf false fates k = 1 by simp [fateOf, Hfg.out, -List.getD_eq_getElem?_getD])
            go_wp2
            refine wp_region_T (S := fun ω => ω.cell? ⟨w1.heap.size, 0, none⟩ = some (.slice (some ⟨kb, ko, none⟩) rs.length kc) ∧ ω.cell? ⟨wr.heap.size, 0, none⟩ = some (.int .i64 m) ∧ ω.cell? ⟨wr.heap.size, 1, none⟩ = some (.slice xa xr.length xc) ∧ Bx ω (w.heap.size) [.slice a rs.length cap, .slice (some ⟨b, off, none⟩) ws.length cap'] ∧ Bx ω (w.heap.size + 1) [.slice none 0 0, .slice none 0 0] ∧ Bx ω (w1.heap.size) [.slice (some ⟨kb, ko, none⟩) rs.length kc, .slice none 0 0] ∧ Ext wr ω) 8 (by kernel_rfl) ?_ (fun hHeld => ?_) (by decide)
            · (try dsimp only); (refine ⟨?_, ?_, ?_, ?_, ?_, ?_, ?_⟩ <;> first | (simp [go_sem]; done) | (simp [*, go_sem]; done) | ((repeat (first | with_reducible assumption | with_reducible exact Bx.new _ _ _ _ rfl | ((with_reducible refine Bx.new _ _ _ _ ?_); simp; done) | with_reducible refine Bx.pAlloc ?_ _ | with_reducible refine Bx.pDrew ?_ | with_reducible refine Bx.pDrewN ?_ _ | with_reducible apply Bx.set10 | with_reducible apply Bx.set20 | with_reducible apply Bx.set21 | with_reducible apply Bx.set30 | with_reducible apply Bx.set31 | with_reducible apply Bx.set32 | with_reducible apply Bx.set40 | with_reducible apply Bx.set41 | with_reducible apply Bx.set42 | with_reducible apply Bx.set43 | ((with_reducible refine Bx.set_other ?_ ?_ _); rotate_left; (simp <;> omega)))); done) | ((repeat (first | with_reducible exact Ext.refl _ | with_reducible assumption | with_reducible refine Ext.pAlloc ?_ _ | ((with_reducible refine Ext.pSet ?_ ?_ _); rotate_left; (simp <;> omega)) | with_reducible refine Ext.pDrew ?_ | with_reducible refine Ext.pDrewN ?_ _)); done))
            refine wpT_take (i := 0) (v := ?_) rfl (by kernel_rfl) (by decide) (by kernel_rfl) (by kernel_rfl) (by kernel_rfl) (fun _ _ _ h => h) (Or.inl ⟨by rfl, ?_⟩) (by assumption) ?_
            rotate_left
            · intro w9 hSw; (try dsimp only at hSw); go_simp; (first | done | with_reducible rfl)
            (try simp only [List.getElem_toArray, List.getElem_cons_succ, List.getElem_cons_zero, Act.put, List.setIfInBounds_toArray, List.set_cons_zero, List.set_cons_succ])
            refine wpT_take (i := 1) (v := ?_) rfl (by kernel_rfl) (by decide) (by kernel_rfl) (by kernel_rfl) (by kernel_rfl) (fun _ _ _ h => h) (Or.inl ⟨by rfl, ?_⟩) (by assumption) ?_
            rotate_left
            · intro w9 hSw; (try dsimp only at hSw); go_simp; (first | done | with_reducible rfl)
            (try simp only [List.getElem_toArray, List.getElem_cons_succ, List.getElem_cons_zero, Act.put, List.setIfInBounds_toArray, List.set_cons_zero, List.set_cons_succ])
            refine wpT_take (i := 2) (v := ?_) rfl (by kernel_rfl) (by decide) (by kernel_rfl) (by kernel_rfl) (by kernel_rfl) (fun _ _ _ h => h) (Or.inl ⟨by rfl, ?_⟩) (by assumption) ?_
            rotate_left
            · intro w9 hSw; (try dsimp only at hSw); go_simp; (first | done | with_reducible rfl)
            (try simp only [List.getElem_toArray, List.getElem_cons_succ, List.getElem_cons_zero, Act.put, List.setIfInBounds_toArray, List.set_cons_zero, List.set_cons_succ])
            refine wpT_take (i := 3) (v := ?_) rfl (by kernel_rfl) (by decide) (by kernel_rfl) (by kernel_rfl) (by kernel_rfl) (fun _ _ _ h => h) (Or.inl ⟨by rfl, ?_⟩) (by assumption) ?_
            rotate_left
            · intro w9 hSw; (try dsimp only at hSw); go_simp; (first | done | with_reducible rfl)
            (try simp only [List.getElem_toArray, List.getElem_cons_succ, List.getElem_cons_zero, Act.put, List.setIfInBounds_toArray, List.set_cons_zero, List.set_cons_succ])
            refine wpT_take (i := 4) (v := ?_) rfl (by kernel_rfl) (by decide) (by kernel_rfl) (by kernel_rfl) (by kernel_rfl) (fun _ _ _ h => h) (Or.inl ⟨by rfl, ?_⟩) (by assumption) ?_
            rotate_left
            · intro w9 hSw; (try dsimp only at hSw); go_simp; (first | done | with_reducible rfl)
            (try simp only [List.getElem_toArray, List.getElem_cons_succ, List.getElem_cons_zero, Act.put, List.setIfInBounds_toArray, List.set_cons_zero, List.set_cons_succ])
            refine wpT_take (i := 5) (v := ?_) rfl (by kernel_rfl) (by decide) (by kernel_rfl) (by kernel_rfl) (by kernel_rfl) (fun _ _ _ h => h) (Or.inl ⟨by rfl, ?_⟩) (by assumption) ?_
            rotate_left
            · intro w9 hSw; (try dsimp only at hSw); go_simp; (first | done | with_reducible rfl)
            (try simp only [List.getElem_toArray, List.getElem_cons_succ, List.getElem_cons_zero, Act.put, List.setIfInBounds_toArray, List.set_cons_zero, List.set_cons_succ])
            refine wpT_step (i := 6) (by kernel_rfl) (by decide) rfl (fun K hK => ?_)
            go_simp
            refine (l1Copy_c _ xr _ (rowC.vext HV.out hHeld.2.2.2.2.2.2) (by omega)).mono ?_
            rintro e w2 ⟨u2, rfl, hE2, hO2⟩
            obtain ⟨ua2, uc2, e2⟩ := u_slice hO2.view
            subst e2
            have hEw : Ext wr w2 := Ext.trans (by repeat (first | with_reducible exact Ext.refl _ | with_reducible assumption | with_reducible refine Ext.pAlloc ?_ _ | ((with_reducible refine Ext.pSet ?_ ?_ _); rotate_left; (simp <;> omega)) | with_reducible refine Ext.pDrew ?_ | with_reducible refine Ext.pDrewN ?_ _)) hE2
            replace hO2 := hO2.wide (lo' := wr.heap.size + 1) (hi' := w2.heap.size) (by first | omega | (simp <;> omega)) (Nat.le_refl _)
            have hz2 : wr.heap.size + 1 ≤ w2.heap.size := by have := hE2.size; (try simp at this); omega
            obtain ⟨u0, cu, _, fu⟩ := own2_slot (m := m) rfl (O_k.ext hEw) (by rw [hfl.out]; exact hm)
            have O_q := own2_put' (m := m) rfl (O_k.ext hEw) (by rw [hfl.out]; exact hm) hO2 (by omega) (by omega) (by omega) (by omega)
            (try go_wp2_with fail)
            refine hK.out _ _ ?_ (fun hHeld2 => ?_)
            · (try dsimp only); (obtain ⟨s0, s1, s2, s3, s4, s5, s6⟩ := hHeld; exact ⟨cell_ext s0 hE2, cell_ext s1 hE2, cell_ext s2 hE2, Bx.ext s3 hE2, Bx.ext s4 hE2, Bx.ext s5 hE2, s6.trans hE2⟩)
            clear hK K hHeld
            rename _ => hHeld
            (try simp only [List.getElem_toArray, List.getElem_cons_succ, List.getElem_cons_zero, Act.put, List.setIfInBounds_toArray, List.set_cons_zero, List.set_cons_succ])
            refine wpT_take (i := 7) (v := ?_) rfl (by kernel_rfl) (by decide) (by kernel_rfl) (by kernel_rfl) (by kernel_rfl) (fun _ _ _ h => h) (Or.inl ⟨by rfl, ?_⟩) (by assumption) ?_
            rotate_left
            · intro w9 hSw; (try dsimp only at hSw); go_simp; (first | done | with_reducible rfl)
            (try simp only [List.getElem_toArray, List.getElem_cons_succ, List.getElem_cons_zero, Act.put, List.setIfInBounds_toArray, List.set_cons_zero, List.set_cons_succ])
            refine wpT_last (by kernel_rfl) (by kernel_rfl) rfl (fun K hK => ?_)
            obtain ⟨e0, e1, e2, e3, e4, e5, e6⟩ := hHeld
            clear hcf' n_f c_d c_o hc0 hc1 n_d n_o e0 e1 e2
            go_simp
            refine hK.out _ _ ?_
            clear hK K
            go_wp2
            go_roundw
            case rel =>
              have X2 : Ext w w2 := X.trans hEw
              refine ⟨k + 1, by omega, by go_num, by repeat (first | with_reducible assumption | with_reducible exact Bx.new _ _ _ _ rfl | ((with_reducible refine Bx.new _ _ _ _ ?_); simp; done) | with_reducible refine Bx.pAlloc ?_ _ | with_reducible refine Bx.pDrew ?_ | with_reducible refine Bx.pDrewN ?_ _ | with_reducible apply Bx.set10 | with_reducible apply Bx.set20 | with_reducible apply Bx.set21 | with_reducible apply Bx.set30 | with_reducible apply Bx.set31 | with_reducible apply Bx.set32 | with_reducible apply Bx.set40 | with_reducible apply Bx.set41 | with_reducible apply Bx.set42 | with_reducible apply Bx.set43 | ((with_reducible refine Bx.set_other ?_ ?_ _); rotate_left; (simp <;> omega))), by repeat (first | with_reducible assumption | with_reducible exact Bx.new _ _ _ _ rfl | ((with_reducible refine Bx.new _ _ _ _ ?_); simp; done) | with_reducible refine Bx.pAlloc ?_ _ | with_reducible refine Bx.pDrew ?_ | with_reducible refine Bx.pDrewN ?_ _ | with_reducible apply Bx.set10 | with_reducible apply Bx.set20 | with_reducible apply Bx.set21 | with_reducible apply Bx.set30 | with_reducible apply Bx.set31 | with_reducible apply Bx.set32 | with_reducible apply Bx.set40 | with_reducible apply Bx.set41 | with_reducible apply Bx.set42 | with_reducible apply Bx.set43 | ((with_reducible refine Bx.set_other ?_ ?_ _); rotate_left; (simp <;> omega))), by repeat (first | with_reducible assumption | with_reducible exact Bx.new _ _ _ _ rfl | ((with_reducible refine Bx.new _ _ _ _ ?_); simp; done) | with_reducible refine Bx.pAlloc ?_ _ | with_reducible refine Bx.pDrew ?_ | with_reducible refine Bx.pDrewN ?_ _ | with_reducible apply Bx.set10 | with_reducible apply Bx.set20 | with_reducible apply Bx.set21 | with_reducible apply Bx.set30 | with_reducible apply Bx.set31 | with_reducible apply Bx.set32 | with_reducible apply Bx.set40 | with_reducible apply Bx.set41 | with_reducible apply Bx.set42 | with_reducible apply Bx.set43 | ((with_reducible refine Bx.set_other ?_ ?_ _); rotate_left; (simp <;> omega))), ?_, by repeat (first | with_reducible exact Ext.refl _ | with_reducible assumption | with_reducible refine Ext.pAlloc ?_ _ | ((with_reducible refine Ext.pSet ?_ ?_ _); rotate_left; (simp <;> omega)) | with_reducible refine Ext.pDrew ?_ | with_reducible refine Ext.pDrewN ?_ _), by first | omega | (simp <;> omega)⟩
              rw [hsn.out]
              unfold fallW
              rw [if_pos Hf.out, Int.toNat_natCast]
              exact O_q.wide (Nat.le_refl _) (by simp [World.setCell])
            case measure => simp [intOf]; omega
          · have hb1 : (f == 1) = false := by rw [beq_eq_false_iff_ne]; exact e1
            by_cases e2 : f = 2
            · subst e2
              have Hf := Lib.hid (show ¬ fateOf false fates k = 1 ∧ fateOf false fates k = 2 by simp [fateOf, Hfg.out, -List.getD_eq_getElem?_getD])
              have hml : m < (fallK (fateOf false fates) rs ws k).length := by rw [hfl.out]; exact hm
              obtain ⟨u0, cu, hvo, _⟩ := own2_slot (m := m) rfl O_k hml
              have hol := rowOk_len (fallK_ok Y1.out (fun y hy => (Y2.out y hy).2) k _ (List.getElem_mem hml))
              have Hgd := Lib.hid (show (fallK (fateOf false fates) rs ws k).getD m [] = (fallK (fateOf false fates) rs ws k)[m] by rw [List.getD_eq_getElem?_getD, List.getElem?_eq_getElem hml]; rfl)
              generalize (fallK (fateOf false fates) rs ws k)[m] = old at hvo hol Hgd
              obtain ⟨oa, oc, e⟩ := u_slice hvo
              subst e
              obtain ⟨ol, hol'⟩ : ∃ ol, ol = old.length := ⟨_, rfl⟩
              rw [← hol'] at cu hvo hol
              have HVo := Lib.hid hvo
              have Hol := Lib.hid hol'
              have n_k : kb < wr.heap.size := World.block_lt_of_cell? _ _ cu
              clear hvo hol' hml
              go_wp2
              refine wp_region_T (S := fun ω => ω.cell? ⟨w1.heap.size, 0, none⟩ = some (.slice (some ⟨kb, ko, none⟩) rs.length kc) ∧ ω.cell? ⟨wr.heap.size, 0, none⟩ = some (.int .i64 m) ∧ ω.cell? ⟨wr.heap.size, 1, none⟩ = some (.slice xa xr.length xc) ∧ ω.cell? ⟨kb, ko + m, none⟩ = some (.slice oa ol oc) ∧ Bx ω (w.heap.size) [.slice a rs.length cap, .slice (some ⟨b, off, none⟩) ws.length cap'] ∧ Bx ω (w.heap.size + 1) [.slice none 0 0, .slice none 0 0] ∧ Bx ω (w1.heap.size) [.slice (some ⟨kb, ko, none⟩) rs.length kc, .slice none 0 0] ∧ Ext wr ω) 14 (by kernel_rfl) ?_ (fun hHeld => ?_) (by decide)
              · (try dsimp only); (refine ⟨?_, ?_, ?_, ?_, ?_, ?_, ?_, ?_⟩ <;> first | (simp [go_sem]; done) | (simp [*, go_sem]; done) | ((repeat (first | with_reducible assumption | with_reducible exact Bx.new _ _ _ _ rfl | ((with_reducible refine Bx.new _ _ _ _ ?_); simp; done) | with_reducible refine Bx.pAlloc ?_ _ | with_reducible refine Bx.pDrew ?_ | with_reducible refine Bx.pDrewN ?_ _ | with_reducible apply Bx.set10 | with_reducible apply Bx.set20 | with_reducible apply Bx.set21 | with_reducible apply Bx.set30 | with_reducible apply Bx.set31 | with_reducible apply Bx.set32 | with_reducible apply Bx.set40 | with_reducible apply Bx.set41 | with_reducible apply Bx.set42 | with_reducible apply Bx.set43 | ((with_reducible refine Bx.set_other ?_ ?_ _); rotate_left; (simp <;> omega)))); done) | ((repeat (first | with_reducible exact Ext.refl _ | with_reducible assumption | with_reducible refine Ext.pAlloc ?_ _ | ((with_reducible refine Ext.pSet ?_ ?_ _); rotate_left; (simp <;> omega)) | with_reducible refine Ext.pDrew ?_ | with_reducible refine Ext.pDrewN ?_ _)); done))
              refine wpT_take (i := 0) (v := ?_) rfl (by kernel_rfl) (by decide) (by kernel_rfl) (by kernel_rfl) (by kernel_rfl) (fun _ _ _ h => h) (Or.inl ⟨by rfl, ?_⟩) (by assumption) ?_
              rotate_left
              · intro w9 hSw; (try dsimp only at hSw); go_simp; (first | done | with_reducible rfl)
              (try simp only [List.getElem_toArray, List.getElem_cons_succ, List.getElem_cons_zero, Act.put, List.setIfInBounds_toArray, List.set_cons_zero, List.set_cons_succ])
              refine wpT_take (i := 1) (v := ?_) rfl (by kernel_rfl) (by decide) (by kernel_rfl) (by kernel_rfl) (by kernel_rfl) (fun _ _ _ h => h) (Or.inl ⟨by rfl, ?_⟩) (by assumption) ?_
              rotate_left
              · intro w9 hSw; (try dsimp only at hSw); go_simp; (first | done | with_reducible rfl)
              (try simp only [List.getElem_toArray, List.getElem_cons_succ, List.getElem_cons_zero, Act.put, List.setIfInBounds_toArray, List.set_cons_zero, List.set_cons_succ])
              refine wpT_take (i := 2) (v := ?_) rfl (by kernel_rfl) (by decide) (by kernel_rfl) (by kernel_rfl) (by kernel_rfl) (fun _ _ _ h => h) (Or.inl ⟨by rfl, ?_⟩) (by assumption) ?_
              rotate_left
              · intro w9 hSw; (try dsimp only at hSw); go_simp; (first | done | with_reducible rfl)
              (try simp only [List.getElem_toArray, List.getElem_cons_succ, List.getElem_cons_zero, Act.put, List.setIfInBounds_toArray, List.set_cons_zero, List.set_cons_succ])
              refine wpT_take (i := 3) (v := ?_) rfl (by kernel_rfl) (by decide) (by kernel_rfl) (by kernel_rfl) (by kernel_rfl) (fun _ _ _ h => h) (Or.inl ⟨by rfl, ?_⟩) (by assumption) ?_
              rotate_left
              · intro w9 hSw; (try dsimp only at hSw); go_simp; (first | done | with_reducible rfl)
              (try simp only [List.getElem_toArray, List.getElem_cons_succ, List.getElem_cons_zero, Act.put, List.setIfInBounds_toArray, List.set_cons_zero, List.set_cons_succ])
              refine wpT_take (i := 4) (v := ?_) rfl (by kernel_rfl) (by decide) (by kernel_rfl) (by kernel_rfl) (by kernel_rfl) (fun _ _ _ h => h) (Or.inl ⟨by rfl, ?_⟩) (by assumption) ?_
              rotate_left
              · intro w9 hSw; (try dsimp only at hSw); go_simp; (first | done | with_reducible rfl)
              (try simp only [List.getElem_toArray, List.getElem_cons_succ, List.getElem_cons_zero, Act.put, List.setIfInBounds_toArray, List.set_cons_zero, List.set_cons_succ])
              refine wpT_take (i := 5) (v := ?_) rfl (by kernel_rfl) (by decide) (by kernel_rfl) (by kernel_rfl) (by kernel_rfl) (fun _ _ _ h => h) (Or.inl ⟨by rfl, ?_⟩) (by assumption) ?_
              rotate_left
              · intro w9 hSw; (try dsimp only at hSw); go_simp; (first | done | with_reducible rfl)
              (try simp only [List.getElem_toArray, List.getElem_cons_succ, List.getElem_cons_zero, Act.put, List.setIfInBounds_toArray, List.set_cons_zero, List.set_cons_succ])
              refine wpT_take (i := 6) (v := ?_) rfl (by kernel_rfl) (by decide) (by kernel_rfl) (by kernel_rfl) (by kernel_rfl) (fun _ _ _ h => h) (Or.inl ⟨by rfl, ?_⟩) (by assumption) ?_
              rotate_left
              · intro w9 hSw; (try dsimp only at hSw); go_simp; (first | done | with_reducible rfl)
              (try simp only [List.getElem_toArray, List.getElem_cons_succ, List.getElem_cons_zero, Act.put, List.setIfInBounds_toArray, List.set_cons_zero, List.set_cons_succ])
              refine wpT_take (i := 7) (v := ?_) rfl (by kernel_rfl) (by decide) (by kernel_rfl) (by kernel_rfl) (by kernel_rfl) (fun _ _ _ h => h) (Or.inl ⟨by rfl, ?_⟩) (by assumption) ?_
              rotate_left
              · intro w9 hSw; (try dsimp only at hSw); go_simp; (first | done | with_reducible rfl)
              (try simp only [List.getElem_toArray, List.getElem_cons_succ, List.getElem_cons_zero, Act.put, List.setIfInBounds_toArray, List.set_cons_zero, List.set_cons_succ])
              refine wpT_take (i := 8) (v := ?_) rfl (by kernel_rfl) (by decide) (by kernel_rfl) (by kernel_rfl) (by kernel_rfl) (fun _ _ _ h => h) (Or.inl ⟨by rfl, ?_⟩) (by assumption) ?_
              rotate_left
              · intro w9 hSw; (try dsimp only at hSw); go_simp; (first | done | with_reducible rfl)
              (try simp only [List.getElem_toArray, List.getElem_cons_succ, List.getElem_cons_zero, Act.put, List.setIfInBounds_toArray, List.set_cons_zero, List.set_cons_succ])
              refine wpT_take (i := 9) (v := ?_) rfl (by kernel_rfl) (by decide) (by kernel_rfl) (by kernel_rfl) (by kernel_rfl) (fun _ _ _ h => h) (Or.inl ⟨by rfl, ?_⟩) (by assumption) ?_
              rotate_left
              · intro w9 hSw; (try dsimp only at hSw); go_simp; (first | done | with_reducible rfl)
              (try simp only [List.getElem_toArray, List.getElem_cons_succ, List.getElem_cons_zero, Act.put, List.setIfInBounds_toArray, List.set_cons_zero, List.set_cons_succ])
              refine wpT_take (i := 10) (v := ?_) rfl (by kernel_rfl) (by decide) (by kernel_rfl) (by kernel_rfl) (by kernel_rfl) (fun _ _ _ h => h) (Or.inl ⟨by rfl, ?_⟩) (by assumption) ?_
              rotate_left
              · intro w9 hSw; (try dsimp only at hSw); go_simp; (first | done | with_reducible rfl)
              (try simp only [List.getElem_toArray, List.getElem_cons_succ, List.getElem_cons_zero, Act.put, List.setIfInBounds_toArray, List.set_cons_zero, List.set_cons_succ])
              refine wpT_take (i := 11) (v := ?_) rfl (by kernel_rfl) (by decide) (by kernel_rfl) (by kernel_rfl) (by kernel_rfl) (fun _ _ _ h => h) (Or.inl ⟨by rfl, ?_⟩) (by assumption) ?_
              rotate_left
              · intro w9 hSw; (try dsimp only at hSw); go_simp; (first | done | with_reducible rfl)
              (try simp only [List.getElem_toArray, List.getElem_cons_succ, List.getElem_cons_zero, Act.put, List.setIfInBounds_toArray, List.set_cons_zero, List.set_cons_succ])
              refine wpT_step (i := 12) (by kernel_rfl) (by decide) rfl (fun K hK => ?_)
              go_simp
              refine (l3Torn_c _ _ xr old _ (rowC.vext HV.out hHeld.2.2.2.2.2.2.2) (rowC.vext HVo.out hHeld.2.2.2.2.2.2.2) (by omega) (by rw [← Hol.out]; omega)).mono ?_
              rintro e w2 ⟨u2, rfl, hE2, hO2⟩
              obtain ⟨ua2, uc2, e2⟩ := u_slice hO2.view
              subst e2
              have hEw : Ext wr w2 := Ext.trans (by repeat (first | with_reducible exact Ext.refl _ | with_reducible assumption | with_reducible refine Ext.pAlloc ?_ _ | ((with_reducible refine Ext.pSet ?_ ?_ _); rotate_left; (simp <;> omega)) | with_reducible refine Ext.pDrew ?_ | with_reducible refine Ext.pDrewN ?_ _)) hE2
              replace hO2 := hO2.wide (lo' := wr.heap.size + 1) (hi' := w2.heap.size) (by first | omega | (simp <;> omega)) (Nat.le_refl _)
              have hz2 : wr.heap.size + 1 ≤ w2.heap.size := by have := hE2.size; (try simp at this); omega
              obtain ⟨u0, cu2, _, fu⟩ := own2_slot (m := m) rfl (O_k.ext hEw) (by rw [hfl.out]; exact hm)
              have O_q := own2_put' (m := m) rfl (O_k.ext hEw) (by rw [hfl.out]; exact hm) hO2 (by omega) (by omega) (by omega) (by omega)
              (try go_wp2_with fail)
              refine hK.out _ _ ?_ (fun hHeld2 => ?_)
              · (try dsimp only); (obtain ⟨s0, s1, s2, s3, s4, s5, s6, s7⟩ := hHeld; exact ⟨cell_ext s0 hE2, cell_ext s1 hE2, cell_ext s2 hE2, cell_ext s3 hE2, Bx.ext s4 hE2, Bx.ext s5 hE2, Bx.ext s6 hE2, s7.trans hE2⟩)
              clear hK K hHeld
              rename _ => hHeld
              (try simp only [List.getElem_toArray, List.getElem_cons_succ, List.getElem_cons_zero, Act.put, List.setIfInBounds_toArray, List.set_cons_zero, List.set_cons_succ])
              refine wpT_take (i := 13) (v := ?_) rfl (by kernel_rfl) (by decide) (by kernel_rfl) (by kernel_rfl) (by kernel_rfl) (fun _ _ _ h => h) (Or.inl ⟨by rfl, ?_⟩) (by assumption) ?_
              rotate_left
              · intro w9 hSw; (try dsimp only at hSw); go_simp; (first | done | with_reducible rfl)
              (try simp only [List.getElem_toArray, List.getElem_cons_succ, List.getElem_cons_zero, Act.put, List.setIfInBounds_toArray, List.set_cons_zero, List.set_cons_succ])
              refine wpT_last (by kernel_rfl) (by kernel_rfl) rfl (fun K hK => ?_)
              obtain ⟨e0, e1, e2, e3, e4, e5, e6, e7⟩ := hHeld
              clear hcf' n_f c_d c_o hc0 hc1 n_d n_o cu e0 e1 e2 e3
              go_simp
              refine hK.out _ _ ?_
              clear hK K
              go_wp2
              go_roundw
              case rel =>
                have X2 : Ext w w2 := X.trans hEw
                refine ⟨k + 1, by omega, by go_num, by repeat (first | with_reducible assumption | with_reducible exact Bx.new _ _ _ _ rfl | ((with_reducible refine Bx.new _ _ _ _ ?_); simp; done) | with_reducible refine Bx.pAlloc ?_ _ | with_reducible refine Bx.pDrew ?_ | with_reducible refine Bx.pDrewN ?_ _ | with_reducible apply Bx.set10 | with_reducible apply Bx.set20 | with_reducible apply Bx.set21 | with_reducible apply Bx.set30 | with_reducible apply Bx.set31 | with_reducible apply Bx.set32 | with_reducible apply Bx.set40 | with_reducible apply Bx.set41 | with_reducible apply Bx.set42 | with_reducible apply Bx.set43 | ((with_reducible refine Bx.set_other ?_ ?_ _); rotate_left; (simp <;> omega))), by repeat (first | with_reducible assumption | with_reducible exact Bx.new _ _ _ _ rfl | ((with_reducible refine Bx.new _ _ _ _ ?_); simp; done) | with_reducible refine Bx.pAlloc ?_ _ | with_reducible refine Bx.pDrew ?_ | with_reducible refine Bx.pDrewN ?_ _ | with_reducible apply Bx.set10 | with_reducible apply Bx.set20 | with_reducible apply Bx.set21 | with_reducible apply Bx.set30 | with_reducible apply Bx.set31 | with_reducible apply Bx.set32 | with_reducible apply Bx.set40 | with_reducible apply Bx.set41 | with_reducible apply Bx.set42 | with_reducible apply Bx.set43 | ((with_reducible refine Bx.set_other ?_ ?_ _); rotate_left; (simp <;> omega))), by repeat (first | with_reducible assumption | with_reducible exact Bx.new _ _ _ _ rfl | ((with_reducible refine Bx.new _ _ _ _ ?_); simp; done) | with_reducible refine Bx.pAlloc ?_ _ | with_reducible refine Bx.pDrew ?_ | with_reducible refine Bx.pDrewN ?_ _ | with_reducible apply Bx.set10 | with_reducible apply Bx.set20 | with_reducible apply Bx.set21 | with_reducible apply Bx.set30 | with_reducible apply Bx.set31 | with_reducible apply Bx.set32 | with_reducible apply Bx.set40 | with_reducible apply Bx.set41 | with_reducible apply Bx.set42 | with_reducible apply Bx.set43 | ((with_reducible refine Bx.set_other ?_ ?_ _); rotate_left; (simp <;> omega))), ?_, by repeat (first | with_reducible exact Ext.refl _ | with_reducible assumption | with_reducible refine Ext.pAlloc ?_ _ | ((with_reducible refine Ext.pSet ?_ ?_ _); rotate_left; (simp <;> omega)) | with_reducible refine Ext.pDrew ?_ | with_reducible refine Ext.pDrewN ?_ _), by first | omega | (simp <;> omega)⟩
                rw [hsn.out]
                unfold fallW
                rw [if_neg Hf.out.1, if_pos Hf.out.2, Int.toNat_natCast]
                show rowsC.own2 _ _ _ _ _ _ ((fallK (fateOf false fates) rs ws k).set m (tornR xr ((fallK (fateOf false fates) rs ws k).getD m [])))
                rw [Hgd.out]
                exact O_q.wide (Nat.le_refl _) (by simp [World.setCell])
              case measure => simp [intOf]; omega
            · have hb2 : (f == 2) = false := by rw [beq_eq_false_iff_ne]; exact e2
              have Hf := Lib.hid (show ¬ fateOf false fates k = 1 ∧ ¬ fateOf false fates k = 2 by simp [fateOf, Hfg.out, e1, e2, -List.getD_eq_getElem?_getD]); clear e1 e2
              go_wp2
              go_roundw
              case rel =>
                refine ⟨k + 1, by omega, by go_num, by repeat (first | with_reducible assumption | with_reducible exact Bx.new _ _ _ _ rfl | ((with_reducible refine Bx.new _ _ _ _ ?_); simp; done) | with_reducible refine Bx.pAlloc ?_ _ | with_reducible refine Bx.pDrew ?_ | with_reducible refine Bx.pDrewN ?_ _ | with_reducible apply Bx.set10 | with_reducible apply Bx.set20 | with_reducible apply Bx.set21 | with_reducible apply Bx.set30 | with_reducible apply Bx.set31 | with_reducible apply Bx.set32 | with_reducible apply Bx.set40 | with_reducible apply Bx.set41 | with_reducible apply Bx.set42 | with_reducible apply Bx.set43 | ((with_reducible refine Bx.set_other ?_ ?_ _); rotate_left; (simp <;> omega))), by repeat (first | with_reducible assumption | with_reducible exact Bx.new _ _ _ _ rfl | ((with_reducible refine Bx.new _ _ _ _ ?_); simp; done) | with_reducible refine Bx.pAlloc ?_ _ | with_reducible refine Bx.pDrew ?_ | with_reducible refine Bx.pDrewN ?_ _ | with_reducible apply Bx.set10 | with_reducible apply Bx.set20 | with_reducible apply Bx.set21 | with_reducible apply Bx.set30 | with_reducible apply Bx.set31 | with_reducible apply Bx.set32 | with_reducible apply Bx.set40 | with_reducible apply Bx.set41 | with_reducible apply Bx.set42 | with_reducible apply Bx.set43 | ((with_reducible refine Bx.set_other ?_ ?_ _); rotate_left; (simp <;> omega))), by repeat (first | with_reducible assumption | with_reducible exact Bx.new _ _ _ _ rfl | ((with_reducible refine Bx.new _ _ _ _ ?_); simp; done) | with_reducible refine Bx.pAlloc ?_ _ | with_reducible refine Bx.pDrew ?_ | with_reducible refine Bx.pDrewN ?_ _ | with_reducible apply Bx.set10 | with_reducible apply Bx.set20 | with_reducible apply Bx.set21 | with_reducible apply Bx.set30 | with_reducible apply Bx.set31 | with_reducible apply Bx.set32 | with_reducible apply Bx.set40 | with_reducible apply Bx.set41 | with_reducible apply Bx.set42 | with_reducible apply Bx.set43 | ((with_reducible refine Bx.set_other ?_ ?_ _); rotate_left; (simp <;> omega))), ?_, by repeat (first | with_reducible exact Ext.refl _ | with_reducible assumption | with_reducible refine Ext.pAlloc ?_ _ | ((with_reducible refine Ext.pSet ?_ ?_ _); rotate_left; (simp <;> omega)) | with_reducible refine Ext.pDrew ?_ | with_reducible refine Ext.pDrewN ?_ _), by first | omega | (simp <;> omega)⟩
                rw [hsn.out]
                unfold fallW
                rw [if_neg Hf.out.1, if_neg Hf.out.2]
                refine Cd.own2.wide (hi2 := wr.heap.size) ?_ (Nat.le_refl _) (by simp)
                repeat (first | with_reducible assumption | ((with_reducible refine Cd.own2.set ?_ ?_ _); rotate_left; (simp <;> omega)) | (with_reducible refine Cd.own2.ext ?_ (Ext.alloc _ _)) | (with_reducible refine Cd.own2.ext ?_ (Ext.drew _)))
              case measure => simp [intOf]; omega
        · have Hf := Lib.hid (show fateOf true fates k = 1 by simp [fateOf])
          go_wp2
          refine wp_region_T (S := fun ω => ω.cell? ⟨w1.heap.size, 0, none⟩ = some (.slice (some ⟨kb, ko, none⟩) rs.length kc) ∧ ω.cell? ⟨wr.heap.size, 0, none⟩ = some (.int .i64 m) ∧ ω.cell? ⟨wr.heap.size, 1, none⟩ = some (.slice xa xr.length xc) ∧ Bx ω (w.heap.size) [.slice a rs.length cap, .slice (some ⟨b, off, none⟩) ws.length cap'] ∧ Bx ω (w.heap.size + 1) [.slice none 0 0, .slice none 0 0] ∧ Bx ω (w1.heap.size) [.slice (some ⟨kb, ko, none⟩) rs.length kc, .slice none 0 0] ∧ Ext wr ω) 8 (by kernel_rfl) ?_ (fun hHeld => ?_) (by decide)
          · (try dsimp only); (refine ⟨?_, ?_, ?_, ?_, ?_, ?_, ?_⟩ <;> first | (simp [go_sem]; done) | (simp [*, go_sem]; done) | ((repeat (first | with_reducible assumption | with_reducible exact Bx.new _ _ _ _ rfl | ((with_reducible refine Bx.new _ _ _ _ ?_); simp; done) | with_reducible refine Bx.pAlloc ?_ _ | with_reducible refine Bx.pDrew ?_ | with_reducible refine Bx.pDrewN ?_ _ | with_reducible apply Bx.set10 | with_reducible apply Bx.set20 | with_reducible apply Bx.set21 | with_reducible apply Bx.set30 | with_reducible apply Bx.set31 | with_reducible apply Bx.set32 | with_reducible apply Bx.set40 | with_reducible apply Bx.set41 | with_reducible apply Bx.set42 | with_reducible apply Bx.set43 | ((with_reducible refine Bx.set_other ?_ ?_ _); rotate_left; (simp <;> omega)))); done) | ((repeat (first | with_reducible exact Ext.refl _ | with_reducible assumption | with_reducible refine Ext.pAlloc ?_ _ | ((with_reducible refine Ext.pSet ?_ ?_ _); rotate_left; (simp <;> omega)) | with_reducible refine Ext.pDrew ?_ | with_reducible refine Ext.pDrewN ?_ _)); done))
          refine wpT_take (i := 0) (v := ?_) rfl (by kernel_rfl) (by decide) (by kernel_rfl) (by kernel_rfl) (by kernel_rfl) (fun _ _ _ h => h) (Or.inl ⟨by rfl, ?_⟩) (by assumption) ?_
          rotate_left
          · intro w9 hSw; (try dsimp only at hSw); go_simp; (first | done | with_reducible rfl)
          (try simp only [List.getElem_toArray, List.getElem_cons_succ, List.getElem_cons_zero, Act.put, List.setIfInBounds_toArray, List.set_cons_zero, List.set_cons_succ])
          refine wpT_take (i := 1) (v := ?_) rfl (by kernel_rfl) (by decide) (by kernel_rfl) (by kernel_rfl) (by kernel_rfl) (fun _ _ _ h => h) (Or.inl ⟨by rfl, ?_⟩) (by assumption) ?_
          rotate_left
          · intro w9 hSw; (try dsimp only at hSw); go_simp; (first | done | with_reducible rfl)
          (try simp only [List.getElem_toArray, List.getElem_cons_succ, List.getElem_cons_zero, Act.put, List.setIfInBounds_toArray, List.set_cons_zero, List.set_cons_succ])
          refine wpT_take (i := 2) (v := ?_) rfl (by kernel_rfl) (by decide) (by kernel_rfl) (by kernel_rfl) (by kernel_rfl) (fun _ _ _ h => h) (Or.inl ⟨by rfl, ?_⟩) (by assumption) ?_
          rotate_left
          · intro w9 hSw; (try dsimp only at hSw); go_simp; (first | done | with_reducible rfl)
          (try simp only [List.getElem_toArray, List.getElem_cons_succ, List.getElem_cons_zero, Act.put, List.setIfInBounds_toArray, List.set_cons_zero, List.set_cons_succ])
          refine wpT_take (i := 3) (v := ?_) rfl (by kernel_rfl) (by decide) (by kernel_rfl) (by kernel_rfl) (by kernel_rfl) (fun _ _ _ h => h) (Or.inl ⟨by rfl, ?_⟩) (by assumption) ?_
          rotate_left
          · intro w9 hSw; (try dsimp only at hSw); go_simp; (first | done | with_reducible rfl)
          (try simp only [List.getElem_toArray, List.getElem_cons_succ, List.getElem_cons_zero, Act.put, List.setIfInBounds_toArray, List.set_cons_zero, List.set_cons_succ])
          refine wpT_take (i := 4) (v := ?_) rfl (by kernel_rfl) (by decide) (by kernel_rfl) (by kernel_rfl) (by kernel_rfl) (fun _ _ _ h => h) (Or.inl ⟨by rfl, ?_⟩) (by assumption) ?_
          rotate_left
          · intro w9 hSw; (try dsimp only at hSw); go_simp; (first | done | with_reducible rfl)
          (try simp only [List.getElem_toArray, List.getElem_cons_succ, List.getElem_cons_zero, Act.put, List.setIfInBounds_toArray, List.set_cons_zero, List.set_cons_succ])
          refine wpT_take (i := 5) (v := ?_) rfl (by kernel_rfl) (by decide) (by kernel_rfl) (by kernel_rfl) (by kernel_rfl) (fun _ _ _ h => h) (Or.inl ⟨by rfl, ?_⟩) (by assumption) ?_
          rotate_left
          · intro w9 hSw; (try dsimp only at hSw); go_simp; (first | done | with_reducible rfl)
          (try simp only [List.getElem_toArray, List.getElem_cons_succ, List.getElem_cons_zero, Act.put, List.setIfInBounds_toArray, List.set_cons_zero, List.set_cons_succ])
          refine wpT_step (i := 6) (by kernel_rfl) (by decide) rfl (fun K hK => ?_)
          go_simp
          refine (l1Copy_c _ xr _ (rowC.vext HV.out hHeld.2.2.2.2.2.2) (by omega)).mono ?_
          rintro e w2 ⟨u2, rfl, hE2, hO2⟩
          obtain ⟨ua2, uc2, e2⟩ := u_slice hO2.view
          subst e2
          have hEw : Ext wr w2 := Ext.trans (by repeat (first | with_reducible exact Ext.refl _ | with_reducible assumption | with_reducible refine Ext.pAlloc ?_ _ | ((with_reducible refine Ext.pSet ?_ ?_ _); rotate_left; (simp <;> omega)) | with_reducible refine Ext.pDrew ?_ | with_reducible refine Ext.pDrewN ?_ _)) hE2
          replace hO2 := hO2.wide (lo' := wr.heap.size + 1) (hi' := w2.heap.size) (by first | omega | (simp <;> omega)) (Nat.le_refl _)
          have hz2 : wr.heap.size + 1 ≤ w2.heap.size := by have := hE2.size; (try simp at this); omega
          obtain ⟨u0, cu, _, fu⟩ := own2_slot (m := m) rfl (O_k.ext hEw) (by rw [hfl.out]; exact hm)
          have O_q := own2_put' (m := m) rfl (O_k.ext hEw) (by rw [hfl.out]; exact hm) hO2 (by omega) (by omega) (by omega) (by omega)
          (try go_wp2_with fail)
          refine hK.out _ _ ?_ (fun hHeld2 => ?_)
          · (try dsimp only); (obtain ⟨s0, s1, s2, s3, s4, s5, s6⟩ := hHeld; exact ⟨cell_ext s0 hE2, cell_ext s1 hE2, cell_ext s2 hE2, Bx.ext s3 hE2, Bx.ext s4 hE2, Bx.ext s5 hE2, s6.trans hE2⟩)
          clear hK K hHeld
          rename _ => hHeld
          (try simp only [List.getElem_toArray, List.getElem_cons_succ, List.getElem_cons_zero, Act.put, List.setIfInBounds_toArray, List.set_cons_zero, List.set_cons_succ])
          refine wpT_take (i := 7) (v := ?_) rfl (by kernel_rfl) (by decide) (by kernel_rfl) (by kernel_rfl) (by kernel_rfl) (fun _ _ _ h => h) (Or.inl ⟨by rfl, ?_⟩) (by assumption) ?_
          rotate_left
          · intro w9 hSw; (try dsimp only at hSw); go_simp; (first | done | with_reducible rfl)
          (try simp only [List.getElem_toArray, List.getElem_cons_succ, List.getElem_cons_zero, Act.put, List.setIfInBounds_toArray, List.set_cons_zero, List.set_cons_succ])
          refine wpT_last (by kernel_rfl) (by kernel_rfl) rfl (fun K hK => ?_)
          obtain ⟨e0, e1, e2, e3, e4, e5, e6⟩ := hHeld
          clear hcf' n_f c_d c_o hc0 hc1 n_d n_o e0 e1 e2
          go_simp
          refine hK.out _ _ ?_
          clear hK K
          go_wp2
          go_roundw
          case rel =>
            have X2 : Ext w w2 := X.trans hEw
            refine ⟨k + 1, by omega, by go_num, by repeat (first | with_reducible assumption | with_reducible exact Bx.new _ _ _ _ rfl | ((with_reducible refine Bx.new _ _ _ _ ?_); simp; done) | with_reducible refine Bx.pAlloc ?_ _ | with_reducible refine Bx.pDrew ?_ | with_reducible refine Bx.pDrewN ?_ _ | with_reducible apply Bx.set10 | with_reducible apply Bx.set20 | with_reducible apply Bx.set21 | with_reducible apply Bx.set30 | with_reducible apply Bx.set31 | with_reducible apply Bx.set32 | with_reducible apply Bx.set40 | with_reducible apply Bx.set41 | with_reducible apply Bx.set42 | with_reducible apply Bx.set43 | ((with_reducible refine Bx.set_other ?_ ?_ _); rotate_left; (simp <;> omega))), by repeat (first | with_reducible assumption | with_reducible exact Bx.new _ _ _ _ rfl | ((with_reducible refine Bx.new _ _ _ _ ?_); simp; done) | with_reducible refine Bx.pAlloc ?_ _ | with_reducible refine Bx.pDrew ?_ | with_reducible refine Bx.pDrewN ?_ _ | with_reducible apply Bx.set10 | with_reducible apply Bx.set20 | with_reducible apply Bx.set21 | with_reducible apply Bx.set30 | with_reducible apply Bx.set31 | with_reducible apply Bx.set32 | with_reducible apply Bx.set40 | with_reducible apply Bx.set41 | with_reducible apply Bx.set42 | with_reducible apply Bx.set43 | ((with_reducible refine Bx.set_other ?_ ?_ _); rotate_left; (simp <;> omega))), by repeat (first | with_reducible assumption | with_reducible exact Bx.new _ _ _ _ rfl | ((with_reducible refine Bx.new _ _ _ _ ?_); simp; done) | with_reducible refine Bx.pAlloc ?_ _ | with_reducible refine Bx.pDrew ?_ | with_reducible refine Bx.pDrewN ?_ _ | with_reducible apply Bx.set10 | with_reducible apply Bx.set20 | with_reducible apply Bx.set21 | with_reducible apply Bx.set30 | with_reducible apply Bx.set31 | with_reducible apply Bx.set32 | with_reducible apply Bx.set40 | with_reducible apply Bx.set41 | with_reducible apply Bx.set42 | with_reducible apply Bx.set43 | ((with_reducible refine Bx.set_other ?_ ?_ _); rotate_left; (simp <;> omega))), ?_, by repeat (first | with_reducible exact Ext.refl _ | with_reducible assumption | with_reducible refine Ext.pAlloc ?_ _ | ((with_reducible refine Ext.pSet ?_ ?_ _); rotate_left; (simp <;> omega)) | with_reducible refine Ext.pDrew ?_ | with_reducible refine Ext.pDrewN ?_ _), by first | omega | (simp <;> omega)⟩
            rw [hsn.out]
            unfold fallW
            rw [if_pos Hf.out, Int.toNat_natCast]
            exact O_q.wide (Nat.le_refl _) (by simp [World.setCell])
          case measure => simp [intOf]; omega
      · have hfk : ¬ (k : Int) < fates.length := by omega
        have hfg : fates.getD k 0 = 0 := by rw [List.getD_eq_getElem?_getD, List.getElem?_eq_none (by omega)]; rfl
        have Hfg := Lib.hid hfg; clear hfg hfc
        cases all
        · have Hf := Lib.hid (show ¬ fateOf false fates k = 1 ∧ ¬ fateOf false fates k = 2 by simp [fateOf, Hfg.out, -List.getD_eq_getElem?_getD])
          go_wp2
          go_roundw
          case rel =>
            refine ⟨k + 1, by omega, by go_num, by repeat (first | with_reducible assumption | with_reducible exact Bx.new _ _ _ _ rfl | ((with_reducible refine Bx.new _ _ _ _ ?_); simp; done) | with_reducible refine Bx.pAlloc ?_ _ | with_reducible refine Bx.pDrew ?_ | with_reducible refine Bx.pDrewN ?_ _ | with_reducible apply Bx.set10 | with_reducible apply Bx.set20 | with_reducible apply Bx.set21 | with_reducible apply Bx.set30 | with_reducible apply Bx.set31 | with_reducible apply Bx.set32 | with_reducible apply Bx.set40 | with_reducible apply Bx.set41 | with_reducible apply Bx.set42 | with_reducible apply Bx.set43 | ((with_reducible refine Bx.set_other ?_ ?_ _); rotate_left; (simp <;> omega))), by repeat (first | with_reducible assumption | with_reducible exact Bx.new _ _ _ _ rfl | ((with_reducible refine Bx.new _ _ _ _ ?_); simp; done) | with_reducible refine Bx.pAlloc ?_ _ | with_reducible refine Bx.pDrew ?_ | with_reducible refine Bx.pDrewN ?_ _ | with_reducible apply Bx.set10 | with_reducible apply Bx.set20 | with_reducible apply Bx.set21 | with_reducible apply Bx.set30 | with_reducible apply Bx.set31 | with_reducible apply Bx.set32 | with_reducible apply Bx.set40 | with_reducible apply Bx.set41 | with_reducible apply Bx.set42 | with_reducible apply Bx.set43 | ((with_reducible refine Bx.set_other ?_ ?_ _); rotate_left; (simp <;> omega))), by repeat (first | with_reducible assumption | with_reducible exact Bx.new _ _ _ _ rfl | ((with_reducible refine Bx.new _ _ _ _ ?_); simp; done) | with_reducible refine Bx.pAlloc ?_ _ | with_reducible refine Bx.pDrew ?_ | with_reducible refine Bx.pDrewN ?_ _ | with_reducible apply Bx.set10 | with_reducible apply Bx.set20 | with_reducible apply Bx.set21 | with_reducible apply Bx.set30 | with_reducible apply Bx.set31 | with_reducible apply Bx.set32 | with_reducible apply Bx.set40 | with_reducible apply Bx.set41 | with_reducible apply Bx.set42 | with_reducible apply Bx.set43 | ((with_reducible refine Bx.set_other ?_ ?_ _); rotate_left; (simp <;> omega))), ?_, by repeat (first | with_reducible exact Ext.refl _ | with_reducible assumption | with_reducible refine Ext.pAlloc ?_ _ | ((with_reducible refine Ext.pSet ?_ ?_ _); rotate_left; (simp <;> omega)) | with_reducible refine Ext.pDrew ?_ | with_reducible refine Ext.pDrewN ?_ _), by first | omega | (simp <;> omega)⟩
            rw [hsn.out]
            unfold fallW
            rw [if_neg Hf.out.1, if_neg Hf.out.2]
            refine Cd.own2.wide (hi2 := wr.heap.size) ?_ (Nat.le_refl _) (by simp)
            repeat (first | with_reducible assumption | ((with_reducible refine Cd.own2.set ?_ ?_ _); rotate_left; (simp <;> omega)) | (with_reducible refine Cd.own2.ext ?_ (Ext.alloc _ _)) | (with_reducible refine Cd.own2.ext ?_ (Ext.drew _)))
          case measure => simp [intOf]; omega
        · have Hf := Lib.hid (show fateOf true fates k = 1 by simp [fateOf])
          go_wp2
          refine wp_region_T (S := fun ω => ω.cell? ⟨w1.heap.size, 0, none⟩ = some (.slice (some ⟨kb, ko, none⟩) rs.length kc) ∧ ω.cell? ⟨wr.heap.size, 0, none⟩ = some (.int .i64 m) ∧ ω.cell? ⟨wr.heap.size, 1, none⟩ = some (.slice xa xr.length xc) ∧ Bx ω (w.heap.size) [.slice a rs.length cap, .slice (some ⟨b, off, none⟩) ws.length cap'] ∧ Bx ω (w.heap.size + 1) [.slice none 0 0, .slice none 0 0] ∧ Bx ω (w1.heap.size) [.slice (some ⟨kb, ko, none⟩) rs.length kc, .slice none 0 0] ∧ Ext wr ω) 8 (by kernel_rfl) ?_ (fun hHeld => ?_) (by decide)
          · (try dsimp only); (refine ⟨?_, ?_, ?_, ?_, ?_, ?_, ?_⟩ <;> first | (simp [go_sem]; done) | (simp [*, go_sem]; done) | ((repeat (first | with_reducible assumption | with_reducible exact Bx.new _ _ _ _ rfl | ((with_reducible refine Bx.new _ _ _ _ ?_); simp; done) | with_reducible refine Bx.pAlloc ?_ _ | with_reducible refine Bx.pDrew ?_ | with_reducible refine Bx.pDrewN ?_ _ | with_reducible apply Bx.set10 | with_reducible apply Bx.set20 | with_reducible apply Bx.set21 | with_reducible apply Bx.set30 | with_reducible apply Bx.set31 | with_reducible apply Bx.set32 | with_reducible apply Bx.set40 | with_reducible apply Bx.set41 | with_reducible apply Bx.set42 | with_reducible apply Bx.set43 | ((with_reducible refine Bx.set_other ?_ ?_ _); rotate_left; (simp <;> omega)))); done) | ((repeat (first | with_reducible exact Ext.refl _ | with_reducible assumption | with_reducible refine Ext.pAlloc ?_ _ | ((with_reducible refine Ext.pSet ?_ ?_ _); rotate_left; (simp <;> omega)) | with_reducible refine Ext.pDrew ?_ | with_reducible refine Ext.pDrewN ?_ _)); done))
          refine wpT_take (i := 0) (v := ?_) rfl (by kernel_rfl) (by decide) (by kernel_rfl) (by kernel_rfl) (by kernel_rfl) (fun _ _ _ h => h) (Or.inl ⟨by rfl, ?_⟩) (by assumption) ?_
          rotate_left
          · intro w9 hSw; (try dsimp only at hSw); go_simp; (first | done | with_reducible rfl)
          (try simp only [List.getElem_toArray, List.getElem_cons_succ, List.getElem_cons_zero, Act.put, List.setIfInBounds_toArray, List.set_cons_zero, List.set_cons_succ])
          refine wpT_take (i := 1) (v := ?_) rfl (by kernel_rfl) (by decide) (by kernel_rfl) (by kernel_rfl) (by kernel_rfl) (fun _ _ _ h => h) (Or.inl ⟨by rfl, ?_⟩) (by assumption) ?_
          rotate_left
          · intro w9 hSw; (try dsimp only at hSw); go_simp; (first | done | with_reducible rfl)
          (try simp only [List.getElem_toArray, List.getElem_cons_succ, List.getElem_cons_zero, Act.put, List.setIfInBounds_toArray, List.set_cons_zero, List.set_cons_succ])
          refine wpT_take (i := 2) (v := ?_) rfl (by kernel_rfl) (by decide) (by kernel_rfl) (by kernel_rfl) (by kernel_rfl) (fun _ _ _ h => h) (Or.inl ⟨by rfl, ?_⟩) (by assumption) ?_
          rotate_left
          · intro w9 hSw; (try dsimp only at hSw); go_simp; (first | done | with_reducible rfl)
          (try simp only [List.getElem_toArray, List.getElem_cons_succ, List.getElem_cons_zero, Act.put, List.setIfInBounds_toArray, List.set_cons_zero, List.set_cons_succ])
          refine wpT_take (i := 3) (v := ?_) rfl (by kernel_rfl) (by decide) (by kernel_rfl) (by kernel_rfl) (by kernel_rfl) (fun _ _ _ h => h) (Or.inl ⟨by rfl, ?_⟩) (by assumption) ?_
          rotate_left
          · intro w9 hSw; (try dsimp only at hSw); go_simp; (first | done | with_reducible rfl)
          (try simp only [List.getElem_toArray, List.getElem_cons_succ, List.getElem_cons_zero, Act.put, List.setIfInBounds_toArray, List.set_cons_zero, List.set_cons_succ])
          refine wpT_take (i := 4) (v := ?_) rfl (by kernel_rfl) (by decide) (by kernel_rfl) (by kernel_rfl) (by kernel_rfl) (fun _ _ _ h => h) (Or.inl ⟨by rfl, ?_⟩) (by assumption) ?_
          rotate_left
          · intro w9 hSw; (try dsimp only at hSw); go_simp; (first | done | with_reducible rfl)
          (try simp only [List.getElem_toArray, List.getElem_cons_succ, List.getElem_cons_zero, Act.put, List.setIfInBounds_toArray, List.set_cons_zero, List.set_cons_succ])
          refine wpT_take (i := 5) (v := ?_) rfl (by kernel_rfl) (by decide) (by kernel_rfl) (by kernel_rfl) (by kernel_rfl) (fun _ _ _ h => h) (Or.inl ⟨by rfl, ?_⟩) (by assumption) ?_
          rotate_left
          · intro w9 hSw; (try dsimp only at hSw); go_simp; (first | done | with_reducible rfl)
          (try simp only [List.getElem_toArray, List.getElem_cons_succ, List.getElem_cons_zero, Act.put, List.setIfInBounds_toArray, List.set_cons_zero, List.set_cons_succ])
          refine wpT_step (i := 6) (by kernel_rfl) (by decide) rfl (fun K hK => ?_)
          go_simp
          refine (l1Copy_c _ xr _ (rowC.vext HV.out hHeld.2.2.2.2.2.2) (by omega)).mono ?_
          rintro e w2 ⟨u2, rfl, hE2, hO2⟩
          obtain ⟨ua2, uc2, e2⟩ := u_slice hO2.view
          subst e2
          have hEw : Ext wr w2 := Ext.trans (by repeat (first | with_reducible exact Ext.refl _ | with_reducible assumption | with_reducible refine Ext.pAlloc ?_ _ | ((with_reducible refine Ext.pSet ?_ ?_ _); rotate_left; (simp <;> omega)) | with_reducible refine Ext.pDrew ?_ | with_reducible refine Ext.pDrewN ?_ _)) hE2
          replace hO2 := hO2.wide (lo' := wr.heap.size + 1) (hi' := w2.heap.size) (by first | omega | (simp <;> omega)) (Nat.le_refl _)
          have hz2 : wr.heap.size + 1 ≤ w2.heap.size := by have := hE2.size; (try simp at this); omega
          obtain ⟨u0, cu, _, fu⟩ := own2_slot (m := m) rfl (O_k.ext hEw) (by rw [hfl.out]; exact hm)
          have O_q := own2_put' (m := m) rfl (O_k.ext hEw) (by rw [hfl.out]; exact hm) hO2 (by omega) (by omega) (by omega) (by omega)
          (try go_wp2_with fail)
          refine hK.out _ _ ?_ (fun hHeld2 => ?_)
          · (try dsimp only); (obtain ⟨s0, s1, s2, s3, s4, s5, s6⟩ := hHeld; exact ⟨cell_ext s0 hE2, cell_ext s1 hE2, cell_ext s2 hE2, Bx.ext s3 hE2, Bx.ext s4 hE2, Bx.ext s5 hE2, s6.trans hE2⟩)
          clear hK K hHeld
          rename _ => hHeld
          (try simp only [List.getElem_toArray, List.getElem_cons_succ, List.getElem_cons_zero, Act.put, List.setIfInBounds_toArray, List.set_cons_zero, List.set_cons_succ])
          refine wpT_take (i := 7) (v := ?_) rfl (by kernel_rfl) (by decide) (by kernel_rfl) (by kernel_rfl) (by kernel_rfl) (fun _ _ _ h => h) (Or.inl ⟨by rfl, ?_⟩) (by assumption) ?_
          rotate_left
          · intro w9 hSw; (try dsimp only at hSw); go_simp; (first | done | with_reducible rfl)
          (try simp only [List.getElem_toArray, List.getElem_cons_succ, List.getElem_cons_zero, Act.put, List.setIfInBounds_toArray, List.set_cons_zero, List.set_cons_succ])
          refine wpT_last (by kernel_rfl) (by kernel_rfl) rfl (fun K hK => ?_)
          obtain ⟨e0, e1, e2, e3, e4, e5, e6⟩ := hHeld
          clear c_d c_o hc0 hc1 n_d n_o e0 e1 e2
          go_simp
          refine hK.out _ _ ?_
          clear hK K
          go_wp2
          go_roundw
          case rel =>
            have X2 : Ext w w2 := X.trans hEw
            refine ⟨k + 1, by omega, by go_num, by repeat (first | with_reducible assumption | with_reducible exact Bx.new _ _ _ _ rfl | ((with_reducible refine Bx.new _ _ _ _ ?_); simp; done) | with_reducible refine Bx.pAlloc ?_ _ | with_reducible refine Bx.pDrew ?_ | with_reducible refine Bx.pDrewN ?_ _ | with_reducible apply Bx.set10 | with_reducible apply Bx.set20 | with_reducible apply Bx.set21 | with_reducible apply Bx.set30 | with_reducible apply Bx.set31 | with_reducible apply Bx.set32 | with_reducible apply Bx.set40 | with_reducible apply Bx.set41 | with_reducible apply Bx.set42 | with_reducible apply Bx.set43 | ((with_reducible refine Bx.set_other ?_ ?_ _); rotate_left; (simp <;> omega))), by repeat (first | with_reducible assumption | with_reducible exact Bx.new _ _ _ _ rfl | ((with_reducible refine Bx.new _ _ _ _ ?_); simp; done) | with_reducible refine Bx.pAlloc ?_ _ | with_reducible refine Bx.pDrew ?_ | with_reducible refine Bx.pDrewN ?_ _ | with_reducible apply Bx.set10 | with_reducible apply Bx.set20 | with_reducible apply Bx.set21 | with_reducible apply Bx.set30 | with_reducible apply Bx.set31 | with_reducible apply Bx.set32 | with_reducible apply Bx.set40 | with_reducible apply Bx.set41 | with_reducible apply Bx.set42 | with_reducible apply Bx.set43 | ((with_reducible refine Bx.set_other ?_ ?_ _); rotate_left; (simp <;> omega))), by repeat (first | with_reducible assumption | with_reducible exact Bx.new _ _ _ _ rfl | ((with_reducible refine Bx.new _ _ _ _ ?_); simp; done) | with_reducible refine Bx.pAlloc ?_ _ | with_reducible refine Bx.pDrew ?_ | with_reducible refine Bx.pDrewN ?_ _ | with_reducible apply Bx.set10 | with_reducible apply Bx.set20 | with_reducible apply Bx.set21 | with_reducible apply Bx.set30 | with_reducible apply Bx.set31 | with_reducible apply Bx.set32 | with_reducible apply Bx.set40 | with_reducible apply Bx.set41 | with_reducible apply Bx.set42 | with_reducible apply Bx.set43 | ((with_reducible refine Bx.set_other ?_ ?_ _); rotate_left; (simp <;> omega))), ?_, by repeat (first | with_reducible exact Ext.refl _ | with_reducible assumption | with_reducible refine Ext.pAlloc ?_ _ | ((with_reducible refine Ext.pSet ?_ ?_ _); rotate_left; (simp <;> omega)) | with_reducible refine Ext.pDrew ?_ | with_reducible refine Ext.pDrewN ?_ _), by first | omega | (simp <;> omega)⟩
            rw [hsn.out]
            unfold fallW
            rw [if_pos Hf.out, Int.toNat_natCast]
            exact O_q.wide (Nat.le_refl _) (by simp [World.setCell])
          case measure => simp [intOf]; omega
    · have he : k = ws.length := by omega
      subst he
      have c_d := B_d.cell 1 _ rfl
      have n_d := B_d.lt
      have c0 := B_o.cell 0 _ rfl
      have c1 := B_o.cell 1 _ rfl
      have d0 := B_r.cell 0 _ rfl
      have d1 := B_r.cell 1 _ rfl
      have f1 := B_r.fr
      have n1 := B_r.lt
      clear hc' hfc
      go_wp2
      refine bodyPost_ret (v := .agg #[.slice (some ⟨kb, ko, none⟩) rs.length kc, .slice none 0 0]) (by simp [results, Try.results95, go_sem, d0, d1]) rfl ⟨_, _, rfl, ?_, ?_⟩
      · repeat (first | with_reducible exact Ext.refl _ | with_reducible assumption | with_reducible refine Ext.pAlloc ?_ _ | ((with_reducible refine Ext.pSet ?_ ?_ _); rotate_left; (simp <;> omega)) | with_reducible refine Ext.pDrew ?_ | with_reducible refine Ext.pDrewN ?_ _)
      · exact Cd.own.wide (prod_own (c := [_]) (d := [_]) (mid := wr.heap.size) (hi := wr.heap.size) (Cd.own2.own (R := rowsC) (lo := w.heap.size + 1 + 1) (hi := mid) (lo2 := w1.heap.size + 1) (by repeat (first | with_reducible assumption | ((with_reducible refine Cd.own2.set ?_ ?_ _); rotate_left; (simp <;> omega)) | (with_reducible refine Cd.own2.ext ?_ (Ext.alloc _ _)) | (with_reducible refine Cd.own2.ext ?_ (Ext.drew _)))) (by omega) (by omega)) (sl_nil _ _ _) (by omega) (Nat.le_refl _)) (by omega) (by simp [World.setCell])

end Go.Proofs.Ytbapomhoipdanaa
