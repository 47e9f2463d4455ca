/- Two disks: mending. -/
import Derived.Test.YtbapomhoipdanaaTw2c
import Derived.Test.YtbapomhoipdanaaTw2d
set_option linter.unusedVariables false
set_option linter.unusedSimpArgs false
namespace Go.Proofs.Ytbapomhoipdanaa
open Go.RowKit Go.Sl

set_option maxHeartbeats 6400000 in
set_option maxRecDepth 20000 in
theorem implMendedAt_c (cs : List Value) (m : TwoD) (n : Int) (rv : Value) (row : List Int) (w : World) (h : twoC.V w cs m) (hrow : rowC.V w [rv] row) :
    Calls Try.prog 33 #[.agg cs.toArray, .int .i64 n, rv] w fun e w' => ∃ u v u' v', e = .returned (.agg #[u, v, u', v']) ∧ Ext w w' ∧ twoC.own w.heap.size w'.heap.size w' [u, v, u', v'] (mendedAt m n row) := by
  obtain ⟨u, v, u', v', rfl, hu, hv⟩ := two_V.1 h
  have HT := Lib.hid h
  obtain ⟨d, d'⟩ := m
  simp only at hu hv
  obtain ⟨⟨ua, uc, rfl⟩, va, vc, rfl⟩ := disk_forms hu
  obtain ⟨⟨ua', uc', rfl⟩, va', vc', rfl⟩ := disk_forms hv
  have H := Lib.hid (And.intro hu hv); clear hu hv h
  obtain ⟨ra, rc, rfl⟩ := u_slice hrow
  have HR := Lib.hid hrow; clear hrow
  cases hb : (bothWrote (d, d') n row).2
  · have hr : mendedAt (d, d') n row = (bothWrote (d, d') n row).1 := by unfold mendedAt; rw [hb]; simp
    rw [hr]; clear hr
    have Hb := Lib.hid hb; clear hb
    go_enter Try.func33, Try.ntmps33
    go_wp2_with fail
    refine (implBothWrote_c _ (d, d') n _ row _ (twoC.vext HT.out (by repeat (first | with_reducible exact Ext.refl _ | with_reducible assumption | with_reducible refine Ext.pAlloc ?_ _ | ((with_reducible refine Ext.pSet ?_ ?_ _); rotate_left; (simp <;> omega)) | with_reducible refine Ext.pDrew ?_ | with_reducible refine Ext.pDrewN ?_ _))) (rowC.vext HR.out (by repeat (first | with_reducible exact Ext.refl _ | with_reducible assumption | with_reducible refine Ext.pAlloc ?_ _ | ((with_reducible refine Ext.pSet ?_ ?_ _); rotate_left; (simp <;> omega)) | with_reducible refine Ext.pDrew ?_ | with_reducible refine Ext.pDrewN ?_ _)))).mono ?_
    rw [Hb.out]
    rintro e w1 ⟨u_o, v_o, x_o, y_o, rfl, Ew1, O_o⟩
    obtain ⟨⟨⟨a_o, c_o, rfl⟩, b_o, e_o, rfl⟩, ⟨p_o, r_o, rfl⟩, q_o, s_o, rfl⟩ := two_forms O_o.view
    have Xw1 : Ext w w1 := Ext.trans (by repeat (first | with_reducible exact Ext.refl _ | with_reducible assumption | with_reducible refine Ext.pAlloc ?_ _ | ((with_reducible refine Ext.pSet ?_ ?_ _); rotate_left; (simp <;> omega)) | with_reducible refine Ext.pDrew ?_ | with_reducible refine Ext.pDrewN ?_ _)) Ew1
    have zw1 : w.heap.size + 1 + 1 ≤ w1.heap.size := by have := Ew1.size; (try simp at this); omega
    have B_t' : Bx w1 w.heap.size [.slice ua d.1.length uc, .slice va d.2.length vc, .slice ua' d'.1.length uc', .slice va' d'.2.length vc'] := Bx.ext (by repeat (first | with_reducible assumption | with_reducible exact Bx.new _ _ _ _ rfl | ((with_reducible refine Bx.new _ _ _ _ ?_); simp; done) | with_reducible refine Bx.pAlloc ?_ _ | with_reducible refine Bx.pDrew ?_ | with_reducible refine Bx.pDrewN ?_ _ | with_reducible apply Bx.set10 | with_reducible apply Bx.set20 | with_reducible apply Bx.set21 | with_reducible apply Bx.set30 | with_reducible apply Bx.set31 | with_reducible apply Bx.set32 | with_reducible apply Bx.set40 | with_reducible apply Bx.set41 | with_reducible apply Bx.set42 | with_reducible apply Bx.set43 | ((with_reducible refine Bx.set_other ?_ ?_ _); rotate_left; (simp <;> omega)))) Ew1
    have B_r' : Bx w1 (w.heap.size + 1) [.slice none 0 0, .slice none 0 0, .slice none 0 0, .slice none 0 0] := Bx.ext (by repeat (first | with_reducible assumption | with_reducible exact Bx.new _ _ _ _ rfl | ((with_reducible refine Bx.new _ _ _ _ ?_); simp; done) | with_reducible refine Bx.pAlloc ?_ _ | with_reducible refine Bx.pDrew ?_ | with_reducible refine Bx.pDrewN ?_ _ | with_reducible apply Bx.set10 | with_reducible apply Bx.set20 | with_reducible apply Bx.set21 | with_reducible apply Bx.set30 | with_reducible apply Bx.set31 | with_reducible apply Bx.set32 | with_reducible apply Bx.set40 | with_reducible apply Bx.set41 | with_reducible apply Bx.set42 | with_reducible apply Bx.set43 | ((with_reducible refine Bx.set_other ?_ ?_ _); rotate_left; (simp <;> omega)))) Ew1
    have B_t := B_t'; clear B_t'
    have B_r := B_r'; clear B_r'
    replace O_o := O_o.wide (lo' := w.heap.size + 1 + 1) (hi' := w1.heap.size) (by first | omega | (simp <;> omega)) (Nat.le_refl _)
    clear Ew1
    have c_t_0 := B_t.cell 0 _ rfl
    have c_t_1 := B_t.cell 1 _ rfl
    have c_t_2 := B_t.cell 2 _ rfl
    have c_t_3 := B_t.cell 3 _ rfl
    have n_t := B_t.lt
    have c_r_0 := B_r.cell 0 _ rfl
    have c_r_1 := B_r.cell 1 _ rfl
    have c_r_2 := B_r.cell 2 _ rfl
    have c_r_3 := B_r.cell 3 _ rfl
    have n_r := B_r.lt
    have f_r := B_r.fr
    go_wp2
    refine bodyPost_ret (v := .agg #[.slice a_o ((bothWrote (d, d') n row).1).1.1.length c_o, .slice b_o ((bothWrote (d, d') n row).1).1.2.length e_o, .slice p_o ((bothWrote (d, d') n row).1).2.1.length r_o, .slice q_o ((bothWrote (d, d') n row).1).2.2.length s_o]) (by simp [results, Try.results33, go_sem, c_r_0, c_r_1, c_r_2, c_r_3, n_r]) rfl ⟨_, _, _, _, rfl, ?_, ?_⟩
    · repeat (first | with_reducible exact Ext.refl _ | with_reducible assumption | with_reducible refine Ext.pAlloc ?_ _ | ((with_reducible refine Ext.pSet ?_ ?_ _); rotate_left; (simp <;> omega)) | with_reducible refine Ext.pDrew ?_ | with_reducible refine Ext.pDrewN ?_ _)
    · refine Cd.own.wide (lo := w.heap.size + 1 + 1) (hi := w1.heap.size) ?_ (by omega) (by first | (simp [World.setCell]; done) | (simp [World.setCell]; omega))
      repeat (first | with_reducible assumption | with_reducible refine Cd.own.pAlloc ?_ _ | with_reducible refine Cd.own.pDrew ?_ | with_reducible refine Cd.own.pDrewN ?_ _ | ((with_reducible refine Cd.own.pSet ?_ ?_ _); rotate_left; (simp <;> omega)))
  · have hr : mendedAt (d, d') n row = bothSynced (bothWrote (d, d') n row).1 := by unfold mendedAt; rw [hb]; simp
    rw [hr]; clear hr
    have Hb := Lib.hid hb; clear hb
    go_enter Try.func33, Try.ntmps33
    go_wp2_with fail
    refine (implBothWrote_c _ (d, d') n _ row _ (twoC.vext HT.out (by repeat (first | with_reducible exact Ext.refl _ | with_reducible assumption | with_reducible refine Ext.pAlloc ?_ _ | ((with_reducible refine Ext.pSet ?_ ?_ _); rotate_left; (simp <;> omega)) | with_reducible refine Ext.pDrew ?_ | with_reducible refine Ext.pDrewN ?_ _))) (rowC.vext HR.out (by repeat (first | with_reducible exact Ext.refl _ | with_reducible assumption | with_reducible refine Ext.pAlloc ?_ _ | ((with_reducible refine Ext.pSet ?_ ?_ _); rotate_left; (simp <;> omega)) | with_reducible refine Ext.pDrew ?_ | with_reducible refine Ext.pDrewN ?_ _)))).mono ?_
    rw [Hb.out]
    rintro e w1 ⟨u_o, v_o, x_o, y_o, rfl, Ew1, O_o⟩
    obtain ⟨⟨⟨a_o, c_o, rfl⟩, b_o, e_o, rfl⟩, ⟨p_o, r_o, rfl⟩, q_o, s_o, rfl⟩ := two_forms O_o.view
    have Xw1 : Ext w w1 := Ext.trans (by repeat (first | with_reducible exact Ext.refl _ | with_reducible assumption | with_reducible refine Ext.pAlloc ?_ _ | ((with_reducible refine Ext.pSet ?_ ?_ _); rotate_left; (simp <;> omega)) | with_reducible refine Ext.pDrew ?_ | with_reducible refine Ext.pDrewN ?_ _)) Ew1
    have zw1 : w.heap.size + 1 + 1 ≤ w1.heap.size := by have := Ew1.size; (try simp at this); omega
    have B_t' : Bx w1 w.heap.size [.slice ua d.1.length uc, .slice va d.2.length vc, .slice ua' d'.1.length uc', .slice va' d'.2.length vc'] := Bx.ext (by repeat (first | with_reducible assumption | with_reducible exact Bx.new _ _ _ _ rfl | ((with_reducible refine Bx.new _ _ _ _ ?_); simp; done) | with_reducible refine Bx.pAlloc ?_ _ | with_reducible refine Bx.pDrew ?_ | with_reducible refine Bx.pDrewN ?_ _ | with_reducible apply Bx.set10 | with_reducible apply Bx.set20 | with_reducible apply Bx.set21 | with_reducible apply Bx.set30 | with_reducible apply Bx.set31 | with_reducible apply Bx.set32 | with_reducible apply Bx.set40 | with_reducible apply Bx.set41 | with_reducible apply Bx.set42 | with_reducible apply Bx.set43 | ((with_reducible refine Bx.set_other ?_ ?_ _); rotate_left; (simp <;> omega)))) Ew1
    have B_r' : Bx w1 (w.heap.size + 1) [.slice none 0 0, .slice none 0 0, .slice none 0 0, .slice none 0 0] := Bx.ext (by repeat (first | with_reducible assumption | with_reducible exact Bx.new _ _ _ _ rfl | ((with_reducible refine Bx.new _ _ _ _ ?_); simp; done) | with_reducible refine Bx.pAlloc ?_ _ | with_reducible refine Bx.pDrew ?_ | with_reducible refine Bx.pDrewN ?_ _ | with_reducible apply Bx.set10 | with_reducible apply Bx.set20 | with_reducible apply Bx.set21 | with_reducible apply Bx.set30 | with_reducible apply Bx.set31 | with_reducible apply Bx.set32 | with_reducible apply Bx.set40 | with_reducible apply Bx.set41 | with_reducible apply Bx.set42 | with_reducible apply Bx.set43 | ((with_reducible refine Bx.set_other ?_ ?_ _); rotate_left; (simp <;> omega)))) Ew1
    have B_t := B_t'; clear B_t'
    have B_r := B_r'; clear B_r'
    replace O_o := O_o.wide (lo' := w.heap.size + 1 + 1) (hi' := w1.heap.size) (by first | omega | (simp <;> omega)) (Nat.le_refl _)
    clear Ew1
    have c_t_0 := B_t.cell 0 _ rfl
    have c_t_1 := B_t.cell 1 _ rfl
    have c_t_2 := B_t.cell 2 _ rfl
    have c_t_3 := B_t.cell 3 _ rfl
    have n_t := B_t.lt
    have c_r_0 := B_r.cell 0 _ rfl
    have c_r_1 := B_r.cell 1 _ rfl
    have c_r_2 := B_r.cell 2 _ rfl
    have c_r_3 := B_r.cell 3 _ rfl
    have n_r := B_r.lt
    have f_r := B_r.fr
    go_wp2_with fail
    refine (implBothSynced_c _ (bothWrote (d, d') n row).1 _ (Cd.own.view (R := twoC) (lo := w.heap.size + 1 + 1) (hi := w1.heap.size) (by repeat (first | with_reducible assumption | with_reducible refine Cd.own.pAlloc ?_ _ | with_reducible refine Cd.own.pDrew ?_ | with_reducible refine Cd.own.pDrewN ?_ _ | ((with_reducible refine Cd.own.pSet ?_ ?_ _); rotate_left; (simp <;> omega)))))).mono ?_
    rintro e w2 ⟨u_f, v_f, x_f, y_f, rfl, Ew2, O_f⟩
    obtain ⟨⟨⟨a_f, c_f, rfl⟩, b_f, e_f, rfl⟩, ⟨p_f, r_f, rfl⟩, q_f, s_f, rfl⟩ := two_forms O_f.view
    have Xw2 : Ext w w2 := Ext.trans (by repeat (first | with_reducible exact Ext.refl _ | with_reducible assumption | with_reducible refine Ext.pAlloc ?_ _ | ((with_reducible refine Ext.pSet ?_ ?_ _); rotate_left; (simp <;> omega)) | with_reducible refine Ext.pDrew ?_ | with_reducible refine Ext.pDrewN ?_ _)) Ew2
    have zw2 : w1.heap.size + 1 ≤ w2.heap.size := by have := Ew2.size; (try simp at this); omega
    have B_t' : Bx w2 w.heap.size [.slice ua d.1.length uc, .slice va d.2.length vc, .slice ua' d'.1.length uc', .slice va' d'.2.length vc'] := Bx.ext (by repeat (first | with_reducible assumption | with_reducible exact Bx.new _ _ _ _ rfl | ((with_reducible refine Bx.new _ _ _ _ ?_); simp; done) | with_reducible refine Bx.pAlloc ?_ _ | with_reducible refine Bx.pDrew ?_ | with_reducible refine Bx.pDrewN ?_ _ | with_reducible apply Bx.set10 | with_reducible apply Bx.set20 | with_reducible apply Bx.set21 | with_reducible apply Bx.set30 | with_reducible apply Bx.set31 | with_reducible apply Bx.set32 | with_reducible apply Bx.set40 | with_reducible apply Bx.set41 | with_reducible apply Bx.set42 | with_reducible apply Bx.set43 | ((with_reducible refine Bx.set_other ?_ ?_ _); rotate_left; (simp <;> omega)))) Ew2
    have B_r' : Bx w2 (w.heap.size + 1) [.slice none 0 0, .slice none 0 0, .slice none 0 0, .slice none 0 0] := Bx.ext (by repeat (first | with_reducible assumption | with_reducible exact Bx.new _ _ _ _ rfl | ((with_reducible refine Bx.new _ _ _ _ ?_); simp; done) | with_reducible refine Bx.pAlloc ?_ _ | with_reducible refine Bx.pDrew ?_ | with_reducible refine Bx.pDrewN ?_ _ | with_reducible apply Bx.set10 | with_reducible apply Bx.set20 | with_reducible apply Bx.set21 | with_reducible apply Bx.set30 | with_reducible apply Bx.set31 | with_reducible apply Bx.set32 | with_reducible apply Bx.set40 | with_reducible apply Bx.set41 | with_reducible apply Bx.set42 | with_reducible apply Bx.set43 | ((with_reducible refine Bx.set_other ?_ ?_ _); rotate_left; (simp <;> omega)))) Ew2
    have B_x' : Bx w2 w1.heap.size [.slice a_o ((bothWrote (d, d') n row).1).1.1.length c_o, .slice b_o ((bothWrote (d, d') n row).1).1.2.length e_o, .slice p_o ((bothWrote (d, d') n row).1).2.1.length r_o, .slice q_o ((bothWrote (d, d') n row).1).2.2.length s_o] := Bx.ext (by repeat (first | with_reducible assumption | with_reducible exact Bx.new _ _ _ _ rfl | ((with_reducible refine Bx.new _ _ _ _ ?_); simp; done) | with_reducible refine Bx.pAlloc ?_ _ | with_reducible refine Bx.pDrew ?_ | with_reducible refine Bx.pDrewN ?_ _ | with_reducible apply Bx.set10 | with_reducible apply Bx.set20 | with_reducible apply Bx.set21 | with_reducible apply Bx.set30 | with_reducible apply Bx.set31 | with_reducible apply Bx.set32 | with_reducible apply Bx.set40 | with_reducible apply Bx.set41 | with_reducible apply Bx.set42 | with_reducible apply Bx.set43 | ((with_reducible refine Bx.set_other ?_ ?_ _); rotate_left; (simp <;> omega)))) Ew2
    have O_o' : (twoC).own (w.heap.size + 1 + 1) (w1.heap.size) w2 [.slice a_o ((bothWrote (d, d') n row).1).1.1.length c_o, .slice b_o ((bothWrote (d, d') n row).1).1.2.length e_o, .slice p_o ((bothWrote (d, d') n row).1).2.1.length r_o, .slice q_o ((bothWrote (d, d') n row).1).2.2.length s_o] ((bothWrote (d, d') n row).1) := Cd.own.ext (by repeat (first | with_reducible assumption | with_reducible refine Cd.own.pAlloc ?_ _ | with_reducible refine Cd.own.pDrew ?_ | with_reducible refine Cd.own.pDrewN ?_ _ | ((with_reducible refine Cd.own.pSet ?_ ?_ _); rotate_left; (simp <;> omega)))) Ew2
    clear c_t_0 c_t_1 c_t_2 c_t_3 n_t c_r_0 c_r_1 c_r_2 c_r_3 n_r f_r
    clear B_t
    have B_t := B_t'; clear B_t'
    clear B_r
    have B_r := B_r'; clear B_r'
    have B_x := B_x'; clear B_x'
    clear O_o; have O_o := O_o'; clear O_o'
    replace O_f := O_f.wide (lo' := w1.heap.size + 1) (hi' := w2.heap.size) (by first | omega | (simp <;> omega)) (Nat.le_refl _)
    clear Ew2 Xw1
    have c_t_0 := B_t.cell 0 _ rfl
    have c_t_1 := B_t.cell 1 _ rfl
    have c_t_2 := B_t.cell 2 _ rfl
    have c_t_3 := B_t.cell 3 _ rfl
    have n_t := B_t.lt
    have c_r_0 := B_r.cell 0 _ rfl
    have c_r_1 := B_r.cell 1 _ rfl
    have c_r_2 := B_r.cell 2 _ rfl
    have c_r_3 := B_r.cell 3 _ rfl
    have n_r := B_r.lt
    have f_r := B_r.fr
    have c_x_0 := B_x.cell 0 _ rfl
    have c_x_1 := B_x.cell 1 _ rfl
    have c_x_2 := B_x.cell 2 _ rfl
    have c_x_3 := B_x.cell 3 _ rfl
    have n_x := B_x.lt
    go_wp2
    refine bodyPost_ret (v := .agg #[.slice a_f (bothSynced (bothWrote (d, d') n row).1).1.1.length c_f, .slice b_f (bothSynced (bothWrote (d, d') n row).1).1.2.length e_f, .slice p_f (bothSynced (bothWrote (d, d') n row).1).2.1.length r_f, .slice q_f (bothSynced (bothWrote (d, d') n row).1).2.2.length s_f]) (by simp [results, Try.results33, go_sem, c_r_0, c_r_1, c_r_2, c_r_3, n_r]) rfl ⟨_, _, _, _, rfl, ?_, ?_⟩
    · repeat (first | with_reducible exact Ext.refl _ | with_reducible assumption | with_reducible refine Ext.pAlloc ?_ _ | ((with_reducible refine Ext.pSet ?_ ?_ _); rotate_left; (simp <;> omega)) | with_reducible refine Ext.pDrew ?_ | with_reducible refine Ext.pDrewN ?_ _)
    · refine Cd.own.wide (lo := w1.heap.size + 1) (hi := w2.heap.size) ?_ (by omega) (by first | (simp [World.setCell]; done) | (simp [World.setCell]; omega))
      repeat (first | with_reducible assumption | with_reducible refine Cd.own.pAlloc ?_ _ | with_reducible refine Cd.own.pDrew ?_ | with_reducible refine Cd.own.pDrewN ?_ _ | ((with_reducible refine Cd.own.pSet ?_ ?_ _); rotate_left; (simp <;> omega)))


end Go.Proofs.Ytbapomhoipdanaa
