/- Disks: the reference's sync and crash. -/
import Derived.Test.YtbapomhoipdanaaFl
set_option linter.unusedVariables false
set_option linter.unusedSimpArgs false
namespace Go.Proofs.Ytbapomhoipdanaa
open Go.RowKit Go.Sl

theorem row_zero (w : World) (a : Option Addr) (c : Nat) (hc : c ≤ 9223372036854775807) : rowC.V w [.slice a 0 c] [] := ⟨a, c, [], rfl, Nat.zero_le _, by simpa [maxLen] using hc, fun j u hj => by simp at hj, rfl⟩

set_option maxHeartbeats 4000000 in
set_option maxRecDepth 20000 in
theorem specSynced_c (cs : List Value) (d : DiskD) (w : World) (h : diskC.V w cs d) :
    Calls Try.prog 60 #[.agg cs.toArray] w fun e w' => ∃ u v, e = .returned (.agg #[u, v]) ∧ Ext w w' ∧ diskC.own w.heap.size w'.heap.size w' [u, v] (synced d) := by
  have HD := Lib.hid h
  obtain ⟨u, v, rfl, hu, hv⟩ := disk_V.1 h
  obtain ⟨rs, ws⟩ := d
  simp only at hu hv
  obtain ⟨a, cap, rfl⟩ := sl_form hu
  obtain ⟨a', cap', rfl⟩ := sl_form hv
  clear hu hv h
  cases hd : diskOk (rs, ws)
  · have hr : synced (rs, ws) = ([], []) := by unfold synced; rw [hd]; simp
    rw [hr]; clear hr
    have Hd := Lib.hid hd; clear hd
    go_enter Try.func60, Try.ntmps60
    go_wp2_with fail
    refine (specDiskOk_c _ (rs, ws) _ (diskC.vext HD.out (by repeat (first | with_reducible exact Ext.refl _ | with_reducible assumption | with_reducible refine Ext.pAlloc ?_ _ | ((with_reducible refine Ext.pSet ?_ ?_ _); rotate_left; (simp <;> omega)) | with_reducible refine Ext.pDrew ?_ | with_reducible refine Ext.pDrewN ?_ _)))).mono ?_
    rw [Hd.out]
    rintro e w1 ⟨rfl, Ew1⟩
    have Xw1 : Ext w w1 := Ext.trans (by repeat (first | with_reducible exact Ext.refl _ | with_reducible assumption | with_reducible refine Ext.pAlloc ?_ _ | ((with_reducible refine Ext.pSet ?_ ?_ _); rotate_left; (simp <;> omega)) | with_reducible refine Ext.pDrew ?_ | with_reducible refine Ext.pDrewN ?_ _)) Ew1
    have zw1 : w.heap.size + 1 + 1 ≤ w1.heap.size := by have := Ew1.size; (try simp at this); omega
    have B_d' : Bx w1 w.heap.size [.slice a rs.length cap, .slice a' ws.length cap'] := Bx.ext (by repeat (first | with_reducible assumption | with_reducible exact Bx.new _ _ _ _ rfl | ((with_reducible refine Bx.new _ _ _ _ ?_); simp; done) | with_reducible refine Bx.pAlloc ?_ _ | with_reducible refine Bx.pDrew ?_ | with_reducible refine Bx.pDrewN ?_ _ | with_reducible apply Bx.set10 | with_reducible apply Bx.set20 | with_reducible apply Bx.set21 | with_reducible apply Bx.set30 | with_reducible apply Bx.set31 | with_reducible apply Bx.set32 | with_reducible apply Bx.set40 | with_reducible apply Bx.set41 | with_reducible apply Bx.set42 | with_reducible apply Bx.set43 | ((with_reducible refine Bx.set_other ?_ ?_ _); rotate_left; (simp <;> omega)))) Ew1
    have B_r' : Bx w1 (w.heap.size + 1) [.slice none 0 0, .slice none 0 0] := Bx.ext (by repeat (first | with_reducible assumption | with_reducible exact Bx.new _ _ _ _ rfl | ((with_reducible refine Bx.new _ _ _ _ ?_); simp; done) | with_reducible refine Bx.pAlloc ?_ _ | with_reducible refine Bx.pDrew ?_ | with_reducible refine Bx.pDrewN ?_ _ | with_reducible apply Bx.set10 | with_reducible apply Bx.set20 | with_reducible apply Bx.set21 | with_reducible apply Bx.set30 | with_reducible apply Bx.set31 | with_reducible apply Bx.set32 | with_reducible apply Bx.set40 | with_reducible apply Bx.set41 | with_reducible apply Bx.set42 | with_reducible apply Bx.set43 | ((with_reducible refine Bx.set_other ?_ ?_ _); rotate_left; (simp <;> omega)))) Ew1
    have B_d := B_d'; clear B_d'
    have B_r := B_r'; clear B_r'
    clear Ew1
    have c_d_0 := B_d.cell 0 _ rfl
    have c_d_1 := B_d.cell 1 _ rfl
    have n_d := B_d.lt
    have c_r_0 := B_r.cell 0 _ rfl
    have c_r_1 := B_r.cell 1 _ rfl
    have n_r := B_r.lt
    have f_r := B_r.fr
    go_wp2
    refine bodyPost_ret (v := .agg #[.slice none 0 0, .slice none 0 0]) (by simp [results, Try.results60, go_sem, c_r_0, c_r_1]) rfl ⟨_, _, rfl, ?_, ?_⟩
    · repeat (first | with_reducible exact Ext.refl _ | with_reducible assumption | with_reducible refine Ext.pAlloc ?_ _ | ((with_reducible refine Ext.pSet ?_ ?_ _); rotate_left; (simp <;> omega)) | with_reducible refine Ext.pDrew ?_ | with_reducible refine Ext.pDrewN ?_ _)
    · exact prod_own (c := [_]) (d := [_]) (mid := w.heap.size) (sl_nil _ _ _) (sl_nil _ _ _) (Nat.le_refl _) (by simp [World.setCell]; omega)
  · have hr : synced (rs, ws) = (fallD (fateOf true []) (rs, ws)) := by unfold synced; rw [hd]; simp
    rw [hr]; clear hr
    have Hk := Lib.hid hd
    have Hd := Lib.hid hd; clear hd
    go_enter Try.func60, Try.ntmps60
    go_wp2_with fail
    refine (specDiskOk_c _ (rs, ws) _ (diskC.vext HD.out (by repeat (first | with_reducible exact Ext.refl _ | with_reducible assumption | with_reducible refine Ext.pAlloc ?_ _ | ((with_reducible refine Ext.pSet ?_ ?_ _); rotate_left; (simp <;> omega)) | with_reducible refine Ext.pDrew ?_ | with_reducible refine Ext.pDrewN ?_ _)))).mono ?_
    rw [Hd.out]
    rintro e w1 ⟨rfl, Ew1⟩
    have Xw1 : Ext w w1 := Ext.trans (by repeat (first | with_reducible exact Ext.refl _ | with_reducible assumption | with_reducible refine Ext.pAlloc ?_ _ | ((with_reducible refine Ext.pSet ?_ ?_ _); rotate_left; (simp <;> omega)) | with_reducible refine Ext.pDrew ?_ | with_reducible refine Ext.pDrewN ?_ _)) Ew1
    have zw1 : w.heap.size + 1 + 1 ≤ w1.heap.size := by have := Ew1.size; (try simp at this); omega
    have B_d' : Bx w1 w.heap.size [.slice a rs.length cap, .slice a' ws.length cap'] := Bx.ext (by repeat (first | with_reducible assumption | with_reducible exact Bx.new _ _ _ _ rfl | ((with_reducible refine Bx.new _ _ _ _ ?_); simp; done) | with_reducible refine Bx.pAlloc ?_ _ | with_reducible refine Bx.pDrew ?_ | with_reducible refine Bx.pDrewN ?_ _ | with_reducible apply Bx.set10 | with_reducible apply Bx.set20 | with_reducible apply Bx.set21 | with_reducible apply Bx.set30 | with_reducible apply Bx.set31 | with_reducible apply Bx.set32 | with_reducible apply Bx.set40 | with_reducible apply Bx.set41 | with_reducible apply Bx.set42 | with_reducible apply Bx.set43 | ((with_reducible refine Bx.set_other ?_ ?_ _); rotate_left; (simp <;> omega)))) Ew1
    have B_r' : Bx w1 (w.heap.size + 1) [.slice none 0 0, .slice none 0 0] := Bx.ext (by repeat (first | with_reducible assumption | with_reducible exact Bx.new _ _ _ _ rfl | ((with_reducible refine Bx.new _ _ _ _ ?_); simp; done) | with_reducible refine Bx.pAlloc ?_ _ | with_reducible refine Bx.pDrew ?_ | with_reducible refine Bx.pDrewN ?_ _ | with_reducible apply Bx.set10 | with_reducible apply Bx.set20 | with_reducible apply Bx.set21 | with_reducible apply Bx.set30 | with_reducible apply Bx.set31 | with_reducible apply Bx.set32 | with_reducible apply Bx.set40 | with_reducible apply Bx.set41 | with_reducible apply Bx.set42 | with_reducible apply Bx.set43 | ((with_reducible refine Bx.set_other ?_ ?_ _); rotate_left; (simp <;> omega)))) Ew1
    have B_d := B_d'; clear B_d'
    have B_r := B_r'; clear B_r'
    clear Ew1
    have c_d_0 := B_d.cell 0 _ rfl
    have c_d_1 := B_d.cell 1 _ rfl
    have n_d := B_d.lt
    have c_r_0 := B_r.cell 0 _ rfl
    have c_r_1 := B_r.cell 1 _ rfl
    have n_r := B_r.lt
    have f_r := B_r.fr
    go_wp2_with fail
    refine (l3Fall_c _ (rs, ws) _ [] true _ (diskC.vext HD.out (by repeat (first | with_reducible exact Ext.refl _ | with_reducible assumption | with_reducible refine Ext.pAlloc ?_ _ | ((with_reducible refine Ext.pSet ?_ ?_ _); rotate_left; (simp <;> omega)) | with_reducible refine Ext.pDrew ?_ | with_reducible refine Ext.pDrewN ?_ _))) (row_zero _ _ _ (by omega)) Hk.out).mono ?_
    rintro e w2 ⟨u1, v1, rfl, E2, O_c⟩
    obtain ⟨u1', v1', e, hu1, hv1⟩ := disk_V.1 O_c.view
    cases e
    obtain ⟨ka, kc, rfl⟩ := sl_form hu1
    obtain ⟨wa, wc, rfl⟩ := sl_form hv1
    clear hu1 hv1
    replace O_c := O_c.wide (lo' := w1.heap.size) (by first | omega | (simp <;> omega)) (Nat.le_refl _)
    have Xw2 : Ext w w2 := Ext.trans (by repeat (first | with_reducible exact Ext.refl _ | with_reducible assumption | with_reducible refine Ext.pAlloc ?_ _ | ((with_reducible refine Ext.pSet ?_ ?_ _); rotate_left; (simp <;> omega)) | with_reducible refine Ext.pDrew ?_ | with_reducible refine Ext.pDrewN ?_ _)) E2
    have zw2 : w1.heap.size ≤ w2.heap.size := by have := E2.size; (try simp at this); omega
    have B_d' : Bx w2 w.heap.size [.slice a rs.length cap, .slice a' ws.length cap'] := Bx.ext (by repeat (first | with_reducible assumption | with_reducible exact Bx.new _ _ _ _ rfl | ((with_reducible refine Bx.new _ _ _ _ ?_); simp; done) | with_reducible refine Bx.pAlloc ?_ _ | with_reducible refine Bx.pDrew ?_ | with_reducible refine Bx.pDrewN ?_ _ | with_reducible apply Bx.set10 | with_reducible apply Bx.set20 | with_reducible apply Bx.set21 | with_reducible apply Bx.set30 | with_reducible apply Bx.set31 | with_reducible apply Bx.set32 | with_reducible apply Bx.set40 | with_reducible apply Bx.set41 | with_reducible apply Bx.set42 | with_reducible apply Bx.set43 | ((with_reducible refine Bx.set_other ?_ ?_ _); rotate_left; (simp <;> omega)))) E2
    have B_r' : Bx w2 (w.heap.size + 1) [.slice none 0 0, .slice none 0 0] := Bx.ext (by repeat (first | with_reducible assumption | with_reducible exact Bx.new _ _ _ _ rfl | ((with_reducible refine Bx.new _ _ _ _ ?_); simp; done) | with_reducible refine Bx.pAlloc ?_ _ | with_reducible refine Bx.pDrew ?_ | with_reducible refine Bx.pDrewN ?_ _ | with_reducible apply Bx.set10 | with_reducible apply Bx.set20 | with_reducible apply Bx.set21 | with_reducible apply Bx.set30 | with_reducible apply Bx.set31 | with_reducible apply Bx.set32 | with_reducible apply Bx.set40 | with_reducible apply Bx.set41 | with_reducible apply Bx.set42 | with_reducible apply Bx.set43 | ((with_reducible refine Bx.set_other ?_ ?_ _); rotate_left; (simp <;> omega)))) E2
    clear c_d_0 c_d_1 n_d c_r_0 c_r_1 n_r f_r
    clear B_d
    have B_d := B_d'; clear B_d'
    clear B_r
    have B_r := B_r'; clear B_r'
    clear E2 Xw1
    have c_d_0 := B_d.cell 0 _ rfl
    have c_d_1 := B_d.cell 1 _ rfl
    have n_d := B_d.lt
    have c_r_0 := B_r.cell 0 _ rfl
    have c_r_1 := B_r.cell 1 _ rfl
    have n_r := B_r.lt
    have f_r := B_r.fr
    go_wp2
    refine bodyPost_ret (v := .agg #[.slice ka ((fallD (fateOf true []) (rs, ws))).1.length kc, .slice wa ((fallD (fateOf true []) (rs, ws))).2.length wc]) (by simp [results, Try.results60, go_sem, c_r_0, c_r_1]) rfl ⟨_, _, rfl, ?_, ?_⟩
    · repeat (first | with_reducible exact Ext.refl _ | with_reducible assumption | with_reducible refine Ext.pAlloc ?_ _ | ((with_reducible refine Ext.pSet ?_ ?_ _); rotate_left; (simp <;> omega)) | with_reducible refine Ext.pDrew ?_ | with_reducible refine Ext.pDrewN ?_ _)
    · refine Cd.own.wide (lo := w1.heap.size) (hi := w2.heap.size) ?_ (by omega) (by simp [World.setCell])
      repeat (first | with_reducible assumption | with_reducible refine Cd.own.pAlloc ?_ _ | with_reducible refine Cd.own.pDrew ?_ | with_reducible refine Cd.own.pDrewN ?_ _ | ((with_reducible refine Cd.own.pSet ?_ ?_ _); rotate_left; (simp <;> omega)))

set_option maxHeartbeats 4000000 in
set_option maxRecDepth 20000 in
theorem specFallen_c (cs : List Value) (d : DiskD) (fv : Value) (fates : List Int) (w : World) (h : diskC.V w cs d) (hf : rowC.V w [fv] fates) :
    Calls Try.prog 70 #[.agg cs.toArray, fv] w fun e w' => ∃ u v, e = .returned (.agg #[u, v]) ∧ Ext w w' ∧ diskC.own w.heap.size w'.heap.size w' [u, v] (fallen d fates) := by
  have HD := Lib.hid h
  obtain ⟨u, v, rfl, hu, hv⟩ := disk_V.1 h
  obtain ⟨rs, ws⟩ := d
  simp only at hu hv
  obtain ⟨a, cap, rfl⟩ := sl_form hu
  obtain ⟨a', cap', rfl⟩ := sl_form hv
  clear hu hv h
  obtain ⟨ra, rc, rfl⟩ := u_slice hf
  have HF := Lib.hid hf
  clear hf
  cases hd : diskOk (rs, ws)
  · have hr : fallen (rs, ws) fates = ([], []) := by unfold fallen; rw [hd]; simp
    rw [hr]; clear hr
    have Hd := Lib.hid hd; clear hd
    go_enter Try.func70, Try.ntmps70
    go_wp2_with fail
    refine (specDiskOk_c _ (rs, ws) _ (diskC.vext HD.out (by repeat (first | with_reducible exact Ext.refl _ | with_reducible assumption | with_reducible refine Ext.pAlloc ?_ _ | ((with_reducible refine Ext.pSet ?_ ?_ _); rotate_left; (simp <;> omega)) | with_reducible refine Ext.pDrew ?_ | with_reducible refine Ext.pDrewN ?_ _)))).mono ?_
    rw [Hd.out]
    rintro e w1 ⟨rfl, Ew1⟩
    have Xw1 : Ext w w1 := Ext.trans (by repeat (first | with_reducible exact Ext.refl _ | with_reducible assumption | with_reducible refine Ext.pAlloc ?_ _ | ((with_reducible refine Ext.pSet ?_ ?_ _); rotate_left; (simp <;> omega)) | with_reducible refine Ext.pDrew ?_ | with_reducible refine Ext.pDrewN ?_ _)) Ew1
    have zw1 : w.heap.size + 1 + 1 ≤ w1.heap.size := by have := Ew1.size; (try simp at this); omega
    have B_d' : Bx w1 w.heap.size [.slice a rs.length cap, .slice a' ws.length cap'] := Bx.ext (by repeat (first | with_reducible assumption | with_reducible exact Bx.new _ _ _ _ rfl | ((with_reducible refine Bx.new _ _ _ _ ?_); simp; done) | with_reducible refine Bx.pAlloc ?_ _ | with_reducible refine Bx.pDrew ?_ | with_reducible refine Bx.pDrewN ?_ _ | with_reducible apply Bx.set10 | with_reducible apply Bx.set20 | with_reducible apply Bx.set21 | with_reducible apply Bx.set30 | with_reducible apply Bx.set31 | with_reducible apply Bx.set32 | with_reducible apply Bx.set40 | with_reducible apply Bx.set41 | with_reducible apply Bx.set42 | with_reducible apply Bx.set43 | ((with_reducible refine Bx.set_other ?_ ?_ _); rotate_left; (simp <;> omega)))) Ew1
    have B_r' : Bx w1 (w.heap.size + 1) [.slice none 0 0, .slice none 0 0] := Bx.ext (by repeat (first | with_reducible assumption | with_reducible exact Bx.new _ _ _ _ rfl | ((with_reducible refine Bx.new _ _ _ _ ?_); simp; done) | with_reducible refine Bx.pAlloc ?_ _ | with_reducible refine Bx.pDrew ?_ | with_reducible refine Bx.pDrewN ?_ _ | with_reducible apply Bx.set10 | with_reducible apply Bx.set20 | with_reducible apply Bx.set21 | with_reducible apply Bx.set30 | with_reducible apply Bx.set31 | with_reducible apply Bx.set32 | with_reducible apply Bx.set40 | with_reducible apply Bx.set41 | with_reducible apply Bx.set42 | with_reducible apply Bx.set43 | ((with_reducible refine Bx.set_other ?_ ?_ _); rotate_left; (simp <;> omega)))) Ew1
    have B_d := B_d'; clear B_d'
    have B_r := B_r'; clear B_r'
    clear Ew1
    have c_d_0 := B_d.cell 0 _ rfl
    have c_d_1 := B_d.cell 1 _ rfl
    have n_d := B_d.lt
    have c_r_0 := B_r.cell 0 _ rfl
    have c_r_1 := B_r.cell 1 _ rfl
    have n_r := B_r.lt
    have f_r := B_r.fr
    go_wp2
    refine bodyPost_ret (v := .agg #[.slice none 0 0, .slice none 0 0]) (by simp [results, Try.results70, go_sem, c_r_0, c_r_1]) rfl ⟨_, _, rfl, ?_, ?_⟩
    · repeat (first | with_reducible exact Ext.refl _ | with_reducible assumption | with_reducible refine Ext.pAlloc ?_ _ | ((with_reducible refine Ext.pSet ?_ ?_ _); rotate_left; (simp <;> omega)) | with_reducible refine Ext.pDrew ?_ | with_reducible refine Ext.pDrewN ?_ _)
    · exact prod_own (c := [_]) (d := [_]) (mid := w.heap.size) (sl_nil _ _ _) (sl_nil _ _ _) (Nat.le_refl _) (by simp [World.setCell]; omega)
  · have hr : fallen (rs, ws) fates = (fallD (fateOf false fates) (rs, ws)) := by unfold fallen; rw [hd]; simp
    rw [hr]; clear hr
    have Hk := Lib.hid hd
    have Hd := Lib.hid hd; clear hd
    go_enter Try.func70, Try.ntmps70
    go_wp2_with fail
    refine (specDiskOk_c _ (rs, ws) _ (diskC.vext HD.out (by repeat (first | with_reducible exact Ext.refl _ | with_reducible assumption | with_reducible refine Ext.pAlloc ?_ _ | ((with_reducible refine Ext.pSet ?_ ?_ _); rotate_left; (simp <;> omega)) | with_reducible refine Ext.pDrew ?_ | with_reducible refine Ext.pDrewN ?_ _)))).mono ?_
    rw [Hd.out]
    rintro e w1 ⟨rfl, Ew1⟩
    have Xw1 : Ext w w1 := Ext.trans (by repeat (first | with_reducible exact Ext.refl _ | with_reducible assumption | with_reducible refine Ext.pAlloc ?_ _ | ((with_reducible refine Ext.pSet ?_ ?_ _); rotate_left; (simp <;> omega)) | with_reducible refine Ext.pDrew ?_ | with_reducible refine Ext.pDrewN ?_ _)) Ew1
    have zw1 : w.heap.size + 1 + 1 ≤ w1.heap.size := by have := Ew1.size; (try simp at this); omega
    have B_d' : Bx w1 w.heap.size [.slice a rs.length cap, .slice a' ws.length cap'] := Bx.ext (by repeat (first | with_reducible assumption | with_reducible exact Bx.new _ _ _ _ rfl | ((with_reducible refine Bx.new _ _ _ _ ?_); simp; done) | with_reducible refine Bx.pAlloc ?_ _ | with_reducible refine Bx.pDrew ?_ | with_reducible refine Bx.pDrewN ?_ _ | with_reducible apply Bx.set10 | with_reducible apply Bx.set20 | with_reducible apply Bx.set21 | with_reducible apply Bx.set30 | with_reducible apply Bx.set31 | with_reducible apply Bx.set32 | with_reducible apply Bx.set40 | with_reducible apply Bx.set41 | with_reducible apply Bx.set42 | with_reducible apply Bx.set43 | ((with_reducible refine Bx.set_other ?_ ?_ _); rotate_left; (simp <;> omega)))) Ew1
    have B_r' : Bx w1 (w.heap.size + 1) [.slice none 0 0, .slice none 0 0] := Bx.ext (by repeat (first | with_reducible assumption | with_reducible exact Bx.new _ _ _ _ rfl | ((with_reducible refine Bx.new _ _ _ _ ?_); simp; done) | with_reducible refine Bx.pAlloc ?_ _ | with_reducible refine Bx.pDrew ?_ | with_reducible refine Bx.pDrewN ?_ _ | with_reducible apply Bx.set10 | with_reducible apply Bx.set20 | with_reducible apply Bx.set21 | with_reducible apply Bx.set30 | with_reducible apply Bx.set31 | with_reducible apply Bx.set32 | with_reducible apply Bx.set40 | with_reducible apply Bx.set41 | with_reducible apply Bx.set42 | with_reducible apply Bx.set43 | ((with_reducible refine Bx.set_other ?_ ?_ _); rotate_left; (simp <;> omega)))) Ew1
    have B_d := B_d'; clear B_d'
    have B_r := B_r'; clear B_r'
    clear Ew1
    have c_d_0 := B_d.cell 0 _ rfl
    have c_d_1 := B_d.cell 1 _ rfl
    have n_d := B_d.lt
    have c_r_0 := B_r.cell 0 _ rfl
    have c_r_1 := B_r.cell 1 _ rfl
    have n_r := B_r.lt
    have f_r := B_r.fr
    go_wp2_with fail
    refine (l3Fall_c _ (rs, ws) _ fates false _ (diskC.vext HD.out (by repeat (first | with_reducible exact Ext.refl _ | with_reducible assumption | with_reducible refine Ext.pAlloc ?_ _ | ((with_reducible refine Ext.pSet ?_ ?_ _); rotate_left; (simp <;> omega)) | with_reducible refine Ext.pDrew ?_ | with_reducible refine Ext.pDrewN ?_ _))) (rowC.vext HF.out (by repeat (first | with_reducible exact Ext.refl _ | with_reducible assumption | with_reducible refine Ext.pAlloc ?_ _ | ((with_reducible refine Ext.pSet ?_ ?_ _); rotate_left; (simp <;> omega)) | with_reducible refine Ext.pDrew ?_ | with_reducible refine Ext.pDrewN ?_ _))) Hk.out).mono ?_
    rintro e w2 ⟨u1, v1, rfl, E2, O_c⟩
    obtain ⟨u1', v1', e, hu1, hv1⟩ := disk_V.1 O_c.view
    cases e
    obtain ⟨ka, kc, rfl⟩ := sl_form hu1
    obtain ⟨wa, wc, rfl⟩ := sl_form hv1
    clear hu1 hv1
    replace O_c := O_c.wide (lo' := w1.heap.size) (by first | omega | (simp <;> omega)) (Nat.le_refl _)
    have Xw2 : Ext w w2 := Ext.trans (by repeat (first | with_reducible exact Ext.refl _ | with_reducible assumption | with_reducible refine Ext.pAlloc ?_ _ | ((with_reducible refine Ext.pSet ?_ ?_ _); rotate_left; (simp <;> omega)) | with_reducible refine Ext.pDrew ?_ | with_reducible refine Ext.pDrewN ?_ _)) E2
    have zw2 : w1.heap.size ≤ w2.heap.size := by have := E2.size; (try simp at this); omega
    have B_d' : Bx w2 w.heap.size [.slice a rs.length cap, .slice a' ws.length cap'] := Bx.ext (by repeat (first | with_reducible assumption | with_reducible exact Bx.new _ _ _ _ rfl | ((with_reducible refine Bx.new _ _ _ _ ?_); simp; done) | with_reducible refine Bx.pAlloc ?_ _ | with_reducible refine Bx.pDrew ?_ | with_reducible refine Bx.pDrewN ?_ _ | with_reducible apply Bx.set10 | with_reducible apply Bx.set20 | with_reducible apply Bx.set21 | with_reducible apply Bx.set30 | with_reducible apply Bx.set31 | with_reducible apply Bx.set32 | with_reducible apply Bx.set40 | with_reducible apply Bx.set41 | with_reducible apply Bx.set42 | with_reducible apply Bx.set43 | ((with_reducible refine Bx.set_other ?_ ?_ _); rotate_left; (simp <;> omega)))) E2
    have B_r' : Bx w2 (w.heap.size + 1) [.slice none 0 0, .slice none 0 0] := Bx.ext (by repeat (first | with_reducible assumption | with_reducible exact Bx.new _ _ _ _ rfl | ((with_reducible refine Bx.new _ _ _ _ ?_); simp; done) | with_reducible refine Bx.pAlloc ?_ _ | with_reducible refine Bx.pDrew ?_ | with_reducible refine Bx.pDrewN ?_ _ | with_reducible apply Bx.set10 | with_reducible apply Bx.set20 | with_reducible apply Bx.set21 | with_reducible apply Bx.set30 | with_reducible apply Bx.set31 | with_reducible apply Bx.set32 | with_reducible apply Bx.set40 | with_reducible apply Bx.set41 | with_reducible apply Bx.set42 | with_reducible apply Bx.set43 | ((with_reducible refine Bx.set_other ?_ ?_ _); rotate_left; (simp <;> omega)))) E2
    clear c_d_0 c_d_1 n_d c_r_0 c_r_1 n_r f_r
    clear B_d
    have B_d := B_d'; clear B_d'
    clear B_r
    have B_r := B_r'; clear B_r'
    clear E2 Xw1
    have c_d_0 := B_d.cell 0 _ rfl
    have c_d_1 := B_d.cell 1 _ rfl
    have n_d := B_d.lt
    have c_r_0 := B_r.cell 0 _ rfl
    have c_r_1 := B_r.cell 1 _ rfl
    have n_r := B_r.lt
    have f_r := B_r.fr
    go_wp2
    refine bodyPost_ret (v := .agg #[.slice ka ((fallD (fateOf false fates) (rs, ws))).1.length kc, .slice wa ((fallD (fateOf false fates) (rs, ws))).2.length wc]) (by simp [results, Try.results70, go_sem, c_r_0, c_r_1]) rfl ⟨_, _, rfl, ?_, ?_⟩
    · repeat (first | with_reducible exact Ext.refl _ | with_reducible assumption | with_reducible refine Ext.pAlloc ?_ _ | ((with_reducible refine Ext.pSet ?_ ?_ _); rotate_left; (simp <;> omega)) | with_reducible refine Ext.pDrew ?_ | with_reducible refine Ext.pDrewN ?_ _)
    · refine Cd.own.wide (lo := w1.heap.size) (hi := w2.heap.size) ?_ (by omega) (by simp [World.setCell])
      repeat (first | with_reducible assumption | with_reducible refine Cd.own.pAlloc ?_ _ | with_reducible refine Cd.own.pDrew ?_ | with_reducible refine Cd.own.pDrewN ?_ _ | ((with_reducible refine Cd.own.pSet ?_ ?_ _); rotate_left; (simp <;> omega)))

end Go.Proofs.Ytbapomhoipdanaa
