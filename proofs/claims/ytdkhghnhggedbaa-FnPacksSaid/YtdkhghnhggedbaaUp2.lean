/- Rows: unpacked by the reference. -/
import Derived.Test.YtdkhghnhggedbaaUp
set_option linter.unusedVariables false
set_option linter.unusedSimpArgs false
namespace Go.Proofs.Ytdkhghnhggedbaa
open Go.RowKit Go.Sl

set_option maxHeartbeats 3200000 in
set_option maxRecDepth 20000 in
theorem specUnpacked_c (v : Value) (row : List Int) (w : World) (h : rowC.V w [v] row) :
    Calls Try.prog 30 #[v] w fun e w' => ∃ v', e = .returned (.tuple #[v', .bool (unpacked row).2]) ∧ Ext w w' ∧ rowsC.own w.heap.size w'.heap.size w' [v'] (unpacked row).1 := by
  have H := Lib.hid h
  obtain ⟨a, cap, rfl, h1, h2, hc⟩ := row_open h
  clear h
  have hinr : (Try.prog.info? 25).map (fun i => (i.zero, i.size, i.bytes)) = some (some (.slice none 0 0), 1, 24) := by kernel_rfl
  have Hinr := Lib.hid hinr; clear hinr
  cases hr : rowOk row
  · rw [unp_no (by simp [hr])]
    have Hr := Lib.hid hr; clear hr hc
    go_enter Try.func30, Try.ntmps30
    go_wp2_with fail
    refine (specRowOk_c _ row _ H.out).mono ?_
    rw [Hr.out]
    rintro e w' ⟨rfl, rfl⟩
    go_wp2
    go_ret2
    exact ⟨_, rfl, Ext.alloc _ _, rows_empty _ _ _ (Nat.le_refl _)⟩
  · have hlen := rowOk_len hr
    by_cases hp : 0 < row.length
    · obtain ⟨b, off, n0, rfl, hcell0, hx0⟩ := hc 0 hp
      have hn0 := rowOk_mem hr (List.mem_of_getElem? hx0.out)
      obtain ⟨n, rfl⟩ : ∃ n : Nat, n0 = n := ⟨n0.toNat, by omega⟩
      have HN := Lib.hid (getD_of hx0)
      have Hr := Lib.hid hr
      have Hm := Lib.hid (fun x hx => rowOk_mem hr (x := x) hx)
      have hz0 : ((row.length : Int) == 0) = false := by rw [beq_eq_false_iff_ne]; omega
      rw [Nat.add_zero] at hcell0
      have hp1 : (0 : Int) < row.length := by omega
      clear hr hx0
      go_enter Try.func30, Try.ntmps30
      go_wp2_with fail
      refine (specRowOk_c _ row _ H.out).mono ?_
      rw [Hr.out]
      rintro e w' ⟨rfl, rfl⟩
      go_wp2
      go_loopw [4, 5] (fun v4 v5 wr => ∃ (k t : Nat) (o : List (List Int)) (oa : Option Addr) (oc : Nat), v5 = .int .i64 t ∧ Hid (unpK row k = some (o, t)) ∧ k ≤ n ∧ t ≤ row.length ∧ v4 = .slice oa o.length oc ∧ rowsC.own w.heap.size wr.heap.size wr [.slice oa o.length oc] o ∧ Ext w wr) (fun _ v5 _ => row.length + 1 - (intOf v5).toNat)
      case atStart => exact ⟨0, 1, [], _, 0, rfl, rfl, Nat.zero_le _, hp, rfl, rows_empty _ _ _ (Nat.le_refl _), Ext.alloc _ _⟩
      case round =>
        obtain ⟨k, t, o, oa, oc, rfl, hu, hkn, htl, rfl, O_o, X⟩ := hrel
        have hul := unpK_len hu.out hp
        have c0 := cell_ext hcell0 X
        have nb := World.block_lt_of_cell? _ _ c0
        have ho : o.length ≤ 48 := by omega
        by_cases hk : k < n
        · have hd0 : decide ((o.length : Int) < n) = true := by rw [decide_eq_true_iff]; omega
          have hd0' : o.length < n := by omega
          by_cases ht : t < row.length
          · obtain ⟨b', off', z0, e, hcz, hxz⟩ := hc t ht
            cases e
            have hzb := Hm.out z0 (List.mem_of_getElem? hxz.out)
            obtain ⟨z, rfl⟩ : ∃ z : Nat, z0 = z := ⟨z0.toNat, by omega⟩
            have cz := cell_ext hcz X
            have Hcz := Lib.hid hcz
            have hd1 : decide ((row.length : Int) ≤ t) = false := by rw [decide_eq_false_iff_not]; omega
            have ht1 : (0 : Int) ≤ t := by omega
            have ht2 : (t : Int) < row.length := by omega
            have HZ := Lib.hid (getD_of hxz)
            by_cases hz : (z : Int) ≤ (row.length : Int) - t - 1
            · have hd2 : decide ((row.length : Int) - t - 1 < z) = false := by rw [decide_eq_false_iff_not]; omega
              have hst := Lib.hid (unpK_step hu.out ht HZ.out hz)
              have hw1 : (t : Int) + 1 + z ≤ row.length := by omega
              have hw2 : (0 : Int) ≤ (t : Int) + 1 := by omega
              have hw3 : (t : Int) + 1 + z ≤ cap := by omega
              have hw4 : (t : Int) + 1 ≤ (t : Int) + 1 + z := by omega
              have HP := Lib.hid (row_part (lo := t + 1) (m := z) (rowC.vext H.out X) (by omega))
              by_cases hcap : cap = t + 1
              · obtain rfl : z = 0 := by omega
                subst hcap
                have Hst : Hid (unpK row (k + 1) = some (o ++ [[]], t + 1 + 0)) := by have := hst.out; rw [List.take_zero] at this; exact this
                have hsz := X.size
                clear hc hcz hul hst HP hw1 hw2 hw3 hw4
                go_wp2_with fail
                refine (l1Copy_c _ [] _ (row_zeroV _ _ _ (by omega)) (by simp)).mono ?_
                rintro e w2 ⟨u', rfl, hE2, hO2⟩
                have hsz2 := hE2.size
                obtain ⟨ua, uc, rfl⟩ := u_slice hO2.view
                have X2 := X.trans hE2
                replace O_o := O_o.ext hE2
                go_wp2_with (at_builtin; refine wpList_snocC (R := rowC) (y := []) (lo' := wr.heap.size) (hi' := w2.heap.size) rfl _ _ _ rfl 25 _ 24 Try.underlying39 Hinr.out rfl (Cd.own.pAlloc O_o _) rfl (Cd.own.pAlloc hO2 _) (Nat.le_refl _) hsz (by simp; omega) _ _ rfl (CellsAt.lit _ _ _) (by omega) ?_)
                intro v3 w3 a3 c3 hv3 hO3 hC3
                subst hv3
                have X3 : Ext w w3 := Chg.ext (X2.trans (Ext.alloc _ _)) hC3 (Nat.le_refl _)
                have c03 := cell_ext hcell0 X3
                have cz3 : w3.cell? ⟨b, off + t, none⟩ = some (.int .i64 ((0 : Nat) : Int)) := cell_ext Hcz.out X3
                clear c0 cz
                go_wp2
                go_roundw
                case rel => exact ⟨k + 1, t + 1 + 0, o ++ [[]], a3, c3, valI (by push_cast; omega), Hst, by omega, by omega, by simp, by simpa using hO3, X3⟩
                case measure => simp [intOf]; omega
              · have hcn : ¬ ((cap : Int) = t + 1) := by omega
                have hcn' : t + 1 < cap := by omega
                clear hc hcz hul
                go_wp2_with fail
                refine (l1Copy_c _ _ _ HP.out (by rw [List.length_take]; omega)).mono ?_
                rintro e w2 ⟨u', rfl, hE2, hO2⟩
                have hsz2 := hE2.size
                have hsz := X.size
                obtain ⟨ua, uc, rfl⟩ := u_slice hO2.view
                have X2 := X.trans hE2
                replace O_o := O_o.ext hE2
                generalize hq : (row.drop (t + 1)).take z = q at *
                have Hq := Lib.hid hq; clear hq
                go_wp2_with (at_builtin; refine wpList_snocC (R := rowC) (y := q) (lo' := wr.heap.size) (hi' := w2.heap.size) rfl _ _ _ rfl 25 _ 24 Try.underlying39 Hinr.out rfl (Cd.own.pAlloc O_o _) rfl (Cd.own.pAlloc hO2 _) (Nat.le_refl _) hsz (by simp; omega) _ _ rfl (CellsAt.lit _ _ _) (by omega) ?_)
                intro v3 w3 a3 c3 hv3 hO3 hC3
                subst hv3
                have X3 : Ext w w3 := Chg.ext (X2.trans (Ext.alloc _ _)) hC3 (Nat.le_refl _)
                have c03 := cell_ext hcell0 X3
                have cz3 : w3.cell? ⟨b, off + t, none⟩ = some (.int .i64 z) := cell_ext Hcz.out X3
                clear c0 cz
                go_wp2
                go_roundw
                case rel => exact ⟨k + 1, t + 1 + z, o ++ [q], a3, c3, valI (by push_cast; omega), hst, by omega, by omega, by simp, by simpa using hO3, X3⟩
                case measure => simp [intOf]; omega
            · have hd2 : decide ((row.length : Int) - t - 1 < z) = true := by rw [decide_eq_true_iff]; omega
              have Hf := Lib.hid (unp_fail hu.out HN.out hk (by rw [HZ.out]; exact fun h => hz h.2))
              clear hc hcz hul
              go_wp2
              go_ret2
              refine ⟨.slice (some ⟨wr.heap.size, 0, none⟩) 0 0, ?_, X.trans (Ext.alloc _ _), ?_⟩
              · rw [Hf.out]; rfl
              · rw [Hf.out]; exact rows_empty _ _ _ X.size
          · have hd1 : decide ((row.length : Int) ≤ t) = true := by rw [decide_eq_true_iff]; omega
            have Hf := Lib.hid (unp_fail hu.out HN.out hk (fun h => ht h.1))
            clear hc hul
            go_wp2
            go_ret2
            refine ⟨.slice (some ⟨wr.heap.size, 0, none⟩) 0 0, ?_, X.trans (Ext.alloc _ _), ?_⟩
            · rw [Hf.out]; rfl
            · rw [Hf.out]; exact rows_empty _ _ _ X.size
        · have hkn' : k = n := by omega
          have hd0 : decide ((o.length : Int) < n) = false := by rw [decide_eq_false_iff_not]; omega
          have hd0' : ¬ o.length < n := by omega
          have hd0'' : n ≤ o.length := by omega
          have Hu := Lib.hid (unp_end (hkn' ▸ hu.out) Hr.out hp HN.out)
          clear hc hul hkn'
          by_cases he : t = row.length
          · have hd3 : ((t : Int) != row.length) = false := by rw [bne_eq_false_iff_eq]; omega
            have He := Lib.hid he; clear he
            go_wp2
            go_ret2
            refine ⟨.slice oa o.length oc, ?_, X, ?_⟩
            · rw [Hu.out, if_pos He.out]; rfl
            · rw [Hu.out, if_pos He.out]; exact O_o
          · have hd3 : ((t : Int) != row.length) = true := by rw [bne_iff_ne]; omega
            have He := Lib.hid he; clear he
            go_wp2
            go_ret2
            refine ⟨.slice (some ⟨wr.heap.size, 0, none⟩) 0 0, ?_, X.trans (Ext.alloc _ _), ?_⟩
            · rw [Hu.out, if_neg He.out]; rfl
            · rw [Hu.out, if_neg He.out]; exact rows_empty _ _ _ X.size
    · rw [unp_no (by simp [hp])]
      have hz0 : ((row.length : Int) == 0) = true := by rw [beq_iff_eq]; omega
      have Hr := Lib.hid hr; clear hr hc hp
      go_enter Try.func30, Try.ntmps30
      go_wp2_with fail
      refine (specRowOk_c _ row _ H.out).mono ?_
      rw [Hr.out]
      rintro e w' ⟨rfl, rfl⟩
      go_wp2
      go_ret2
      exact ⟨_, rfl, Ext.alloc _ _, rows_empty _ _ _ (Nat.le_refl _)⟩

end Go.Proofs.Ytdkhghnhggedbaa
