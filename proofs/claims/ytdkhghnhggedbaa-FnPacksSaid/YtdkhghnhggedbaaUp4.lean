/- Rows: unpacked by the program. -/
import Derived.Test.YtdkhghnhggedbaaUp3
set_option linter.unusedVariables false
set_option linter.unusedSimpArgs false
namespace Go.Proofs.Ytdkhghnhggedbaa
open Go.RowKit Go.Sl

theorem rows_nilU (lo hi : Nat) (w : World) : rowsC.own lo hi w [.slice none 0 0] [] := ⟨[], ⟨none, 0, [], [], rfl, Nat.le_refl _, Nat.zero_le _, .inl ⟨rfl, rfl, rfl⟩, ⟨rfl, rfl⟩, rfl⟩, List.nodup_nil, by simp⟩
set_option maxHeartbeats 1600000 in
set_option maxRecDepth 20000 in
theorem implUnpacked_c (v : Value) (row : List Int) (w : World) (h : rowC.V w [v] row) :
    Calls Try.prog 31 #[v] w fun e w' => ∃ v', e = .returned (.tuple #[v', .bool (unpacked row).2]) ∧ Ext w w' ∧ rowsC.own w.heap.size w'.heap.size w' [v'] (unpacked row).1 := by
  have H := Lib.hid h
  obtain ⟨a, cap, rfl, h1, h2, hc⟩ := row_open h
  clear h
  have hinr : (Try.prog.info? 25).map (fun i => (i.zero, i.size, i.bytes)) = some (some (.slice none 0 0), 1, 24) := by kernel_rfl
  have Hinr := Lib.hid hinr; clear hinr
  cases hr : rowOk row
  · rw [unp_no (by simp [hr])]
    have Hr := Lib.hid hr; clear hr hc
    go_enter Try.func31, Try.ntmps31
    go_wp2_with fail
    refine (implRowOk_c _ row _ H.out).mono ?_
    rw [Hr.out]
    rintro e w' ⟨rfl, rfl⟩
    go_wp2
    go_ret2
    exact ⟨_, rfl, Ext.refl _, rows_nilU _ _ _⟩
  · have hlen := rowOk_len hr
    by_cases hp : 0 < row.length
    · obtain ⟨b, off, n0, rfl, hcell0, hx0⟩ := hc 0 hp
      have hn0 := rowOk_mem hr (List.mem_of_getElem? hx0.out)
      obtain ⟨n, rfl⟩ : ∃ n : Nat, n0 = n := ⟨n0.toNat, by omega⟩
      have HN := Lib.hid (getD_of hx0)
      have Hr := Lib.hid hr
      have Hm := Lib.hid (fun x hx => rowOk_mem hr (x := x) hx)
      have hcb := World.block_lt_of_cell? _ _ hcell0
      have hbn : b ≠ w.heap.size := by have : b < w.heap.size := hcb; omega
      have HC0 := Lib.hid hcell0
      clear hr hx0 hcell0 hcb
      go_enter Try.func31, Try.ntmps31
      go_wp2_with fail
      refine (implRowOk_c _ row _ H.out).mono ?_
      rw [Hr.out]
      rintro e w' ⟨rfl, rfl⟩
      go_wp2_with fail
      refine (next_y w.heap.size 0 b off cap row (w.alloc (.cells #[.slice (some ⟨b, off, none⟩) row.length cap, .int .i64 0] 68)) (by show Bx _ w.heap.size [.slice (some ⟨b, off, none⟩) row.length cap, .int .i64 0]; repeat (first | with_reducible assumption | with_reducible exact Bx.new _ _ _ _ rfl | ((with_reducible refine Bx.new _ _ _ _ ?_); simp; done) | with_reducible refine Bx.pAlloc ?_ _ | with_reducible refine Bx.pDrew ?_ | with_reducible refine Bx.pDrewN ?_ _ | with_reducible apply Bx.set10 | with_reducible apply Bx.set20 | with_reducible apply Bx.set21 | with_reducible apply Bx.set30 | with_reducible apply Bx.set31 | with_reducible apply Bx.set32 | with_reducible apply Bx.set40 | with_reducible apply Bx.set41 | with_reducible apply Bx.set42 | with_reducible apply Bx.set43 | ((with_reducible refine Bx.set_other ?_ ?_ _); rotate_left; (simp <;> omega)))) _ (cell_ext HC0.out (Ext.alloc _ _)) hp hbn h1 h2).mono ?_
      rintro e w1 ⟨rfl, hB1, hC1⟩
      have X1 := Chg.ext (Ext.alloc _ _) hC1 (Nat.le_refl _)
      have hs1 := hC1.size
      have hs1' : w.heap.size + 1 ≤ w1.heap.size := by simpa using hs1
      have HB1 := Lib.hid hB1
      clear hC1 hs1 hB1
      go_wp2
      go_loopw [5, 7, 8, 9, 10, 11] (fun v5 v7 _ _ _ _ wr => ∃ (k t : Nat) (o : List (List Int)) (oa : Option Addr) (oc : Nat), v5 = .int .i64 ((n - k : Nat) : Int) ∧ Hid (unpK row k = some (o, t)) ∧ k ≤ n ∧ t ≤ row.length ∧ v7 = .slice oa o.length oc ∧ rowsC.own (w.heap.size + 1) wr.heap.size wr [.slice oa o.length oc] o ∧ Bx wr w.heap.size [.slice (some ⟨b, off, none⟩) row.length cap, .int .i64 (t : Int)] ∧ Ext w wr) (fun v5 _ _ _ _ _ _ => (intOf v5).toNat)
      case atStart => exact ⟨0, 1, [], _, 0, rfl, rfl, Nat.zero_le _, hp, rfl, rows_empty _ _ _ hs1', HB1.out.ext (Ext.alloc _ _), X1.trans (Ext.alloc _ _)⟩
      case round =>
        obtain ⟨k, t, o, oa, oc, rfl, hu, hkn, htl, rfl, O_o, hB, X⟩ := hrel
        have hul := unpK_len hu.out hp
        have ho : o.length ≤ 48 := by omega
        have hlb := hB.lt
        by_cases hk : k < n
        · have hd0 : decide ((0 : Int) < ((n - k : Nat) : Int)) = true := by rw [decide_eq_true_iff]; omega
          have hd0' : 0 < n - k := by omega
          by_cases ht : t < row.length
          · obtain ⟨b', off', z0, e, hcz, hxz⟩ := hc t ht
            cases e
            have hzb := Hm.out z0 (List.mem_of_getElem? hxz.out)
            obtain ⟨z, rfl⟩ : ∃ z : Nat, z0 = z := ⟨z0.toNat, by omega⟩
            have Hcz := Lib.hid (cell_ext hcz X)
            have HZ := Lib.hid (getD_of hxz)
            by_cases hz : (z : Int) ≤ (row.length : Int) - t - 1
            · have hst := Lib.hid (unpK_step hu.out ht HZ.out hz)
              have hwk : IntKind.i64.wrap (((n - k : Nat) : Int) - 1) = ((n - (k + 1) : Nat) : Int) := by rw [show ((n - k : Nat) : Int) - 1 = ((n - (k + 1) : Nat) : Int) by omega]; exact IntWalk.i64_in _ (by omega)
              clear hc hcz hul
              go_wp2_with fail
              refine (next_y w.heap.size t b off cap row _ hB _ Hcz.out ht hbn h1 h2).mono ?_
              rintro e w2 ⟨rfl, hB2, hC2⟩
              have X2 := Chg.ext X hC2 (Nat.le_refl _)
              have hs2 := hC2.size
              go_wp2_with fail
              refine (take_y w.heap.size (t + 1) b off cap row _ hB2 z (rowC.vext H.out X2) (by omega) h1 h2 (by omega)).mono ?_
              rintro e w3 ⟨u', rfl, hB3, hO3, hC3⟩
              have X3 := Chg.ext X2 hC3 (Nat.le_refl _)
              have hs3 := hC3.size
              obtain ⟨ua, uc, rfl⟩ := u_slice hO3.view
              replace O_o := (O_o.chg hC2 (Or.inr (Nat.le_refl _))).chg hC3 (Or.inr (Nat.le_refl _))
              generalize hq : (row.drop (t + 1)).take z = q at *
              have Hq := Lib.hid hq; clear hq
              have HB3 := Lib.hid hB3
              clear hB hB2 hB3 hC2 hC3
              go_wp2_with (at_builtin; refine wpList_snocC (R := rowC) (y := q) (lo := w.heap.size + 1) (hi := wr.heap.size) (lo' := w2.heap.size) (hi' := w3.heap.size) rfl _ _ _ rfl 25 _ 24 Try.underlying39 Hinr.out rfl (Cd.own.pAlloc O_o _) rfl (Cd.own.pAlloc hO3 _) hs2 (by omega) (by simp; omega) _ _ rfl (CellsAt.lit _ _ _) (by omega) ?_)
              intro v4 w4 a4 c4 hv4 hO4 hC4
              subst hv4
              have X4 : Ext w w4 := Chg.ext (X3.trans (Ext.alloc _ _)) hC4 (Nat.le_succ _)
              have HB4 := Lib.hid ((HB3.out.ext (Ext.alloc _ _)).chg hC4 (Or.inl (Nat.lt_succ_self _)))
              go_wp2
              go_roundw
              case rel => exact ⟨k + 1, t + 1 + z, o ++ [q], a4, c4, rfl, hst, by omega, by omega, by simp, by simpa using hO4, HB4.out, X4⟩
              case measure => simp [intOf]; omega
            · have Hf := Lib.hid (unp_fail hu.out HN.out hk (by rw [HZ.out]; exact fun h => hz h.2))
              clear hc hcz hul
              go_wp2_with fail
              refine (next_y w.heap.size t b off cap row _ hB _ Hcz.out ht hbn h1 h2).mono ?_
              rintro e w2 ⟨rfl, hB2, hC2⟩
              have X2 := Chg.ext X hC2 (Nat.le_refl _)
              go_wp2_with fail
              refine (take_n w.heap.size (t + 1) b off cap row _ hB2 z (by omega) (by omega) (by omega)).mono ?_
              rintro e w3 ⟨rfl, hE3⟩
              have X3 := X2.trans hE3
              go_wp2
              go_ret2
              refine ⟨.slice none 0 0, ?_, X3, ?_⟩
              · rw [Hf.out]; rfl
              · rw [Hf.out]; exact rows_nilU _ _ _
          · have Hf := Lib.hid (unp_fail hu.out HN.out hk (fun h => ht h.1))
            have hte : t = row.length := by omega
            have Hte := Lib.hid hte
            clear hc hul hte
            go_wp2_with fail
            refine (next_n w.heap.size t b off cap row _ hB Hte.out).mono ?_
            rintro e w2 ⟨rfl, hE2⟩
            have X2 := X.trans hE2
            go_wp2
            go_ret2
            refine ⟨.slice none 0 0, ?_, X2, ?_⟩
            · rw [Hf.out]; rfl
            · rw [Hf.out]; exact rows_nilU _ _ _
        · have hkn' : k = n := by omega
          have hd0 : decide ((0 : Int) < ((n - k : Nat) : Int)) = false := by rw [decide_eq_false_iff_not]; omega
          have hd0' : ¬ 0 < n - k := by omega
          have hd0'' : n - k = 0 := by omega
          have Hu := Lib.hid (unp_end (hkn' ▸ hu.out) Hr.out hp HN.out)
          clear hc hul hkn'
          by_cases he : t = row.length
          · have He := Lib.hid he; clear he
            go_wp2_with fail
            refine (done_c w.heap.size t b off cap row _ hB true (by rw [He.out]; simp)).mono ?_
            rintro e w2 ⟨rfl, hE2⟩
            have X2 := X.trans hE2
            go_wp2
            go_ret2
            refine ⟨.slice oa o.length oc, ?_, X2, ?_⟩
            · rw [Hu.out, if_pos He.out]; rfl
            · rw [Hu.out, if_pos He.out]; exact Cd.own.wide (Cd.own.ext O_o hE2) (Nat.le_succ _) hE2.size
          · have He := Lib.hid he
            have hdd : decide (t = row.length) = false := by rw [decide_eq_false_iff_not]; exact he
            have Hdd := Lib.hid hdd
            clear he hdd
            go_wp2_with fail
            refine (done_c w.heap.size t b off cap row _ hB false Hdd.out.symm).mono ?_
            rintro e w2 ⟨rfl, hE2⟩
            have X2 := X.trans hE2
            go_wp2
            go_ret2
            refine ⟨.slice none 0 0, ?_, X2, ?_⟩
            · rw [Hu.out, if_neg He.out]; rfl
            · rw [Hu.out, if_neg He.out]; exact rows_nilU _ _ _
    · rw [unp_no (by simp [hp])]
      have hl0 : row.length = 0 := by omega
      have Hr := Lib.hid hr; clear hr hc hp
      have Hl0 := Lib.hid hl0
      clear hl0
      go_enter Try.func31, Try.ntmps31
      go_wp2_with fail
      refine (implRowOk_c _ row _ H.out).mono ?_
      rw [Hr.out]
      rintro e w' ⟨rfl, rfl⟩
      go_wp2_with fail
      refine (next_e w.heap.size cap a _ (by rw [Hl0.out]; repeat (first | with_reducible assumption | with_reducible exact Bx.new _ _ _ _ rfl | ((with_reducible refine Bx.new _ _ _ _ ?_); simp; done) | with_reducible refine Bx.pAlloc ?_ _ | with_reducible refine Bx.pDrew ?_ | with_reducible refine Bx.pDrewN ?_ _ | with_reducible apply Bx.set10 | with_reducible apply Bx.set20 | with_reducible apply Bx.set21 | with_reducible apply Bx.set30 | with_reducible apply Bx.set31 | with_reducible apply Bx.set32 | with_reducible apply Bx.set40 | with_reducible apply Bx.set41 | with_reducible apply Bx.set42 | with_reducible apply Bx.set43 | ((with_reducible refine Bx.set_other ?_ ?_ _); rotate_left; (simp <;> omega))))).mono ?_
      rintro e w1 ⟨rfl, hE1⟩
      have X1 := (Ext.alloc _ _).trans hE1
      go_wp2
      go_ret2
      exact ⟨_, rfl, X1, rows_nilU _ _ _⟩

end Go.Proofs.Ytdkhghnhggedbaa
