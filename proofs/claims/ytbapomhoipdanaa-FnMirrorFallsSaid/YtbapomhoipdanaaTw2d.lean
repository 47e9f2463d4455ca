/- Two disks: the reference's writes. -/
import Derived.Test.YtbapomhoipdanaaTw2b
set_option linter.unusedVariables false
set_option linter.unusedSimpArgs false
namespace Go.Proofs.Ytbapomhoipdanaa
open Go.RowKit Go.Sl

set_option maxHeartbeats 16000000 in
set_option maxRecDepth 20000 in
theorem specBothWrote_c (cs : List Value) (m : TwoD) (n : Int) (rv : Value) (row : List Int) (w : World) (h : twoC.V w cs m) (hrow : rowC.V w [rv] row) :
    Calls Try.prog 25 #[.agg cs.toArray, .int .i64 n, rv] w fun e w' => ∃ u v u' v', e = .returned (.tuple #[.agg #[u, v, u', v'], .bool (bothWrote m n row).2]) ∧ Ext w w' ∧ twoC.own w.heap.size w'.heap.size w' [u, v, u', v'] (bothWrote m n row).1 := by
  obtain ⟨u, v, u', v', rfl, hu, hv⟩ := two_V.1 h
  have HT := Lib.hid h
  obtain ⟨d, d'⟩ := m
  simp only at hu hv
  obtain ⟨⟨ua, uc, rfl⟩, va, vc, rfl⟩ := disk_forms hu
  obtain ⟨⟨ua', uc', rfl⟩, va', vc', rfl⟩ := disk_forms hv
  have H := Lib.hid (And.intro hu hv); clear hu hv h
  obtain ⟨ra, rc, rfl⟩ := u_slice hrow
  have HR := Lib.hid hrow; clear hrow
  cases ht : twoOk (d, d')
  · have hr : bothWrote (d, d') n row = (noTwo, false) := by unfold bothWrote; rw [ht]; simp
    rw [hr]; clear hr
    have Ht := Lib.hid ht; clear ht
    go_enter Try.func25, Try.ntmps25
    go_wp2_with fail
    refine (specTwoOk_c _ (d, d') _ (twoC.vext HT.out (by repeat (first | with_reducible exact Ext.refl _ | with_reducible assumption | with_reducible refine Ext.pAlloc ?_ _ | ((with_reducible refine Ext.pSet ?_ ?_ _); rotate_left; (simp <;> omega)) | with_reducible refine Ext.pDrew ?_ | with_reducible refine Ext.pDrewN ?_ _)))).mono ?_
    rw [Ht.out]
    rintro e w1 ⟨rfl, Ew1⟩
    have Xw1 : Ext w w1 := Ext.trans (by repeat (first | with_reducible exact Ext.refl _ | with_reducible assumption | with_reducible refine Ext.pAlloc ?_ _ | ((with_reducible refine Ext.pSet ?_ ?_ _); rotate_left; (simp <;> omega)) | with_reducible refine Ext.pDrew ?_ | with_reducible refine Ext.pDrewN ?_ _)) Ew1
    have zw1 : w.heap.size + 1 + 1 ≤ w1.heap.size := by have := Ew1.size; (try simp at this); omega
    have B_t' : Bx w1 w.heap.size [.slice ua d.1.length uc, .slice va d.2.length vc, .slice ua' d'.1.length uc', .slice va' d'.2.length vc'] := Bx.ext (by repeat (first | with_reducible assumption | with_reducible exact Bx.new _ _ _ _ rfl | ((with_reducible refine Bx.new _ _ _ _ ?_); simp; done) | with_reducible refine Bx.pAlloc ?_ _ | with_reducible refine Bx.pDrew ?_ | with_reducible refine Bx.pDrewN ?_ _ | with_reducible apply Bx.set10 | with_reducible apply Bx.set20 | with_reducible apply Bx.set21 | with_reducible apply Bx.set30 | with_reducible apply Bx.set31 | with_reducible apply Bx.set32 | with_reducible apply Bx.set40 | with_reducible apply Bx.set41 | with_reducible apply Bx.set42 | with_reducible apply Bx.set43 | ((with_reducible refine Bx.set_other ?_ ?_ _); rotate_left; (simp <;> omega)))) Ew1
    have B_r' : Bx w1 (w.heap.size + 1) [.slice none 0 0, .slice none 0 0, .slice none 0 0, .slice none 0 0] := Bx.ext (by repeat (first | with_reducible assumption | with_reducible exact Bx.new _ _ _ _ rfl | ((with_reducible refine Bx.new _ _ _ _ ?_); simp; done) | with_reducible refine Bx.pAlloc ?_ _ | with_reducible refine Bx.pDrew ?_ | with_reducible refine Bx.pDrewN ?_ _ | with_reducible apply Bx.set10 | with_reducible apply Bx.set20 | with_reducible apply Bx.set21 | with_reducible apply Bx.set30 | with_reducible apply Bx.set31 | with_reducible apply Bx.set32 | with_reducible apply Bx.set40 | with_reducible apply Bx.set41 | with_reducible apply Bx.set42 | with_reducible apply Bx.set43 | ((with_reducible refine Bx.set_other ?_ ?_ _); rotate_left; (simp <;> omega)))) Ew1
    have B_t := B_t'; clear B_t'
    have B_r := B_r'; clear B_r'
    clear Ew1
    have c_t_0 := B_t.cell 0 _ rfl
    have c_t_1 := B_t.cell 1 _ rfl
    have c_t_2 := B_t.cell 2 _ rfl
    have c_t_3 := B_t.cell 3 _ rfl
    have n_t := B_t.lt
    have c_r_0 := B_r.cell 0 _ rfl
    have c_r_1 := B_r.cell 1 _ rfl
    have c_r_2 := B_r.cell 2 _ rfl
    have c_r_3 := B_r.cell 3 _ rfl
    have n_r := B_r.lt
    have f_r := B_r.fr
    go_wp2
    refine bodyPost_ret (v := .tuple #[.agg #[.slice none 0 0, .slice none 0 0, .slice none 0 0, .slice none 0 0], .bool false]) (by simp [results, Try.results25, go_sem, c_r_0, c_r_1, c_r_2, c_r_3, n_r]) rfl ⟨_, _, _, _, rfl, ?_, ?_⟩
    · repeat (first | with_reducible exact Ext.refl _ | with_reducible assumption | with_reducible refine Ext.pAlloc ?_ _ | ((with_reducible refine Ext.pSet ?_ ?_ _); rotate_left; (simp <;> omega)) | with_reducible refine Ext.pDrew ?_ | with_reducible refine Ext.pDrewN ?_ _)
    · exact prod_own (c := [_, _]) (d := [_, _]) (mid := w.heap.size) (prod_own (c := [_]) (d := [_]) (mid := w.heap.size) (sl_nil _ _ _) (sl_nil _ _ _) (Nat.le_refl _) (Nat.le_refl _)) (prod_own (c := [_]) (d := [_]) (mid := w.heap.size) (sl_nil _ _ _) (sl_nil _ _ _) (Nat.le_refl _) (by first | (simp [World.setCell]; done) | (simp [World.setCell]; omega))) (Nat.le_refl _) (by first | (simp [World.setCell]; done) | (simp [World.setCell]; omega))
  · obtain ⟨ok1, ok2, -⟩ := twoOk_parts ht
    have Ok := Lib.hid (And.intro ok1 ok2); clear ok1 ok2
    obtain ⟨S, hS⟩ : ∃ S, S = withSum row := ⟨_, rfl⟩
    have hbw : bothWrote (d, d') n row = if S.length ≠ 0 ∧ (wrote d n S).2 = true ∧ (wrote d' n S).2 = true then (((wrote d n S).1, (wrote d' n S).1), true) else ((d, d'), false) := by unfold bothWrote; rw [ht, hS]; simp
    rw [hbw]; clear hbw
    have HS := Lib.hid hS.symm; clear hS
    by_cases hn0 : S = []
    · cases hw1 : (wrote d n S).2
      all_goals
        cases hw2 : (wrote d' n S).2
        all_goals
          rw [if_neg (by simp [hn0])]
          have Ht := Lib.hid ht; clear ht
          have hS0 : ((S.length : Int) == 0) = true := by rw [hn0]; rfl
          have Hn := Lib.hid hn0; clear hn0
          have Hw1 := Lib.hid hw1; clear hw1
          have Hw2 := Lib.hid hw2; clear hw2
          go_enter Try.func25, Try.ntmps25
          go_wp2_with fail
          refine (specTwoOk_c _ (d, d') _ (twoC.vext HT.out (by repeat (first | with_reducible exact Ext.refl _ | with_reducible assumption | with_reducible refine Ext.pAlloc ?_ _ | ((with_reducible refine Ext.pSet ?_ ?_ _); rotate_left; (simp <;> omega)) | with_reducible refine Ext.pDrew ?_ | with_reducible refine Ext.pDrewN ?_ _)))).mono ?_
          rw [Ht.out]
          rintro e w1 ⟨rfl, Ew1⟩
          have Xw1 : Ext w w1 := Ext.trans (by repeat (first | with_reducible exact Ext.refl _ | with_reducible assumption | with_reducible refine Ext.pAlloc ?_ _ | ((with_reducible refine Ext.pSet ?_ ?_ _); rotate_left; (simp <;> omega)) | with_reducible refine Ext.pDrew ?_ | with_reducible refine Ext.pDrewN ?_ _)) Ew1
          have zw1 : w.heap.size + 1 + 1 ≤ w1.heap.size := by have := Ew1.size; (try simp at this); omega
          have B_t' : Bx w1 w.heap.size [.slice ua d.1.length uc, .slice va d.2.length vc, .slice ua' d'.1.length uc', .slice va' d'.2.length vc'] := Bx.ext (by repeat (first | with_reducible assumption | with_reducible exact Bx.new _ _ _ _ rfl | ((with_reducible refine Bx.new _ _ _ _ ?_); simp; done) | with_reducible refine Bx.pAlloc ?_ _ | with_reducible refine Bx.pDrew ?_ | with_reducible refine Bx.pDrewN ?_ _ | with_reducible apply Bx.set10 | with_reducible apply Bx.set20 | with_reducible apply Bx.set21 | with_reducible apply Bx.set30 | with_reducible apply Bx.set31 | with_reducible apply Bx.set32 | with_reducible apply Bx.set40 | with_reducible apply Bx.set41 | with_reducible apply Bx.set42 | with_reducible apply Bx.set43 | ((with_reducible refine Bx.set_other ?_ ?_ _); rotate_left; (simp <;> omega)))) Ew1
          have B_r' : Bx w1 (w.heap.size + 1) [.slice none 0 0, .slice none 0 0, .slice none 0 0, .slice none 0 0] := Bx.ext (by repeat (first | with_reducible assumption | with_reducible exact Bx.new _ _ _ _ rfl | ((with_reducible refine Bx.new _ _ _ _ ?_); simp; done) | with_reducible refine Bx.pAlloc ?_ _ | with_reducible refine Bx.pDrew ?_ | with_reducible refine Bx.pDrewN ?_ _ | with_reducible apply Bx.set10 | with_reducible apply Bx.set20 | with_reducible apply Bx.set21 | with_reducible apply Bx.set30 | with_reducible apply Bx.set31 | with_reducible apply Bx.set32 | with_reducible apply Bx.set40 | with_reducible apply Bx.set41 | with_reducible apply Bx.set42 | with_reducible apply Bx.set43 | ((with_reducible refine Bx.set_other ?_ ?_ _); rotate_left; (simp <;> omega)))) Ew1
          have B_t := B_t'; clear B_t'
          have B_r := B_r'; clear B_r'
          clear Ew1
          have c_t_0 := B_t.cell 0 _ rfl
          have c_t_1 := B_t.cell 1 _ rfl
          have c_t_2 := B_t.cell 2 _ rfl
          have c_t_3 := B_t.cell 3 _ rfl
          have n_t := B_t.lt
          have c_r_0 := B_r.cell 0 _ rfl
          have c_r_1 := B_r.cell 1 _ rfl
          have c_r_2 := B_r.cell 2 _ rfl
          have c_r_3 := B_r.cell 3 _ rfl
          have n_r := B_r.lt
          have f_r := B_r.fr
          go_wp2_with fail
          refine (specWithSum_c _ row _ (rowC.vext HR.out (by repeat (first | with_reducible exact Ext.refl _ | with_reducible assumption | with_reducible refine Ext.pAlloc ?_ _ | ((with_reducible refine Ext.pSet ?_ ?_ _); rotate_left; (simp <;> omega)) | with_reducible refine Ext.pDrew ?_ | with_reducible refine Ext.pDrewN ?_ _)))).mono ?_
          rw [HS.out]
          rintro e w2 ⟨sv, rfl, Ew2, O_s⟩
          obtain ⟨sa, sc, rfl⟩ := u_slice O_s.view
          have Xw2 : Ext w w2 := Ext.trans (by repeat (first | with_reducible exact Ext.refl _ | with_reducible assumption | with_reducible refine Ext.pAlloc ?_ _ | ((with_reducible refine Ext.pSet ?_ ?_ _); rotate_left; (simp <;> omega)) | with_reducible refine Ext.pDrew ?_ | with_reducible refine Ext.pDrewN ?_ _)) Ew2
          have zw2 : w1.heap.size ≤ w2.heap.size := by have := Ew2.size; (try simp at this); omega
          have B_t' : Bx w2 w.heap.size [.slice ua d.1.length uc, .slice va d.2.length vc, .slice ua' d'.1.length uc', .slice va' d'.2.length vc'] := Bx.ext (by repeat (first | with_reducible assumption | with_reducible exact Bx.new _ _ _ _ rfl | ((with_reducible refine Bx.new _ _ _ _ ?_); simp; done) | with_reducible refine Bx.pAlloc ?_ _ | with_reducible refine Bx.pDrew ?_ | with_reducible refine Bx.pDrewN ?_ _ | with_reducible apply Bx.set10 | with_reducible apply Bx.set20 | with_reducible apply Bx.set21 | with_reducible apply Bx.set30 | with_reducible apply Bx.set31 | with_reducible apply Bx.set32 | with_reducible apply Bx.set40 | with_reducible apply Bx.set41 | with_reducible apply Bx.set42 | with_reducible apply Bx.set43 | ((with_reducible refine Bx.set_other ?_ ?_ _); rotate_left; (simp <;> omega)))) Ew2
          have B_r' : Bx w2 (w.heap.size + 1) [.slice none 0 0, .slice none 0 0, .slice none 0 0, .slice none 0 0] := Bx.ext (by repeat (first | with_reducible assumption | with_reducible exact Bx.new _ _ _ _ rfl | ((with_reducible refine Bx.new _ _ _ _ ?_); simp; done) | with_reducible refine Bx.pAlloc ?_ _ | with_reducible refine Bx.pDrew ?_ | with_reducible refine Bx.pDrewN ?_ _ | with_reducible apply Bx.set10 | with_reducible apply Bx.set20 | with_reducible apply Bx.set21 | with_reducible apply Bx.set30 | with_reducible apply Bx.set31 | with_reducible apply Bx.set32 | with_reducible apply Bx.set40 | with_reducible apply Bx.set41 | with_reducible apply Bx.set42 | with_reducible apply Bx.set43 | ((with_reducible refine Bx.set_other ?_ ?_ _); rotate_left; (simp <;> omega)))) Ew2
          clear c_t_0 c_t_1 c_t_2 c_t_3 n_t c_r_0 c_r_1 c_r_2 c_r_3 n_r f_r
          clear B_t
          have B_t := B_t'; clear B_t'
          clear B_r
          have B_r := B_r'; clear B_r'
          replace O_s := O_s.wide (lo' := w1.heap.size) (hi' := w2.heap.size) (by first | omega | (simp <;> omega)) (Nat.le_refl _)
          clear Ew2 Xw1
          have c_t_0 := B_t.cell 0 _ rfl
          have c_t_1 := B_t.cell 1 _ rfl
          have c_t_2 := B_t.cell 2 _ rfl
          have c_t_3 := B_t.cell 3 _ rfl
          have n_t := B_t.lt
          have c_r_0 := B_r.cell 0 _ rfl
          have c_r_1 := B_r.cell 1 _ rfl
          have c_r_2 := B_r.cell 2 _ rfl
          have c_r_3 := B_r.cell 3 _ rfl
          have n_r := B_r.lt
          have f_r := B_r.fr
          go_wp2_with fail
          refine (specWrote_c _ d n _ S _ (diskC.vext H.out.1 (by repeat (first | with_reducible exact Ext.refl _ | with_reducible assumption | with_reducible refine Ext.pAlloc ?_ _ | ((with_reducible refine Ext.pSet ?_ ?_ _); rotate_left; (simp <;> omega)) | with_reducible refine Ext.pDrew ?_ | with_reducible refine Ext.pDrewN ?_ _))) (Cd.own.view (R := rowC) (lo := w1.heap.size) (hi := w2.heap.size) (by repeat (first | with_reducible assumption | with_reducible refine Cd.own.pAlloc ?_ _ | with_reducible refine Cd.own.pDrew ?_ | with_reducible refine Cd.own.pDrewN ?_ _ | ((with_reducible refine Cd.own.pSet ?_ ?_ _); rotate_left; (simp <;> omega)))))).mono ?_
          rw [Hw1.out]
          rintro e w3 ⟨u_x, v_x, rfl, Ew3, O_x⟩
          obtain ⟨⟨a_x, c_x, rfl⟩, b_x, e_x, rfl⟩ := disk_forms O_x.view
          have Xw3 : Ext w w3 := Ext.trans (by repeat (first | with_reducible exact Ext.refl _ | with_reducible assumption | with_reducible refine Ext.pAlloc ?_ _ | ((with_reducible refine Ext.pSet ?_ ?_ _); rotate_left; (simp <;> omega)) | with_reducible refine Ext.pDrew ?_ | with_reducible refine Ext.pDrewN ?_ _)) Ew3
          have zw3 : w2.heap.size ≤ w3.heap.size := by have := Ew3.size; (try simp at this); omega
          have B_t' : Bx w3 w.heap.size [.slice ua d.1.length uc, .slice va d.2.length vc, .slice ua' d'.1.length uc', .slice va' d'.2.length vc'] := Bx.ext (by repeat (first | with_reducible assumption | with_reducible exact Bx.new _ _ _ _ rfl | ((with_reducible refine Bx.new _ _ _ _ ?_); simp; done) | with_reducible refine Bx.pAlloc ?_ _ | with_reducible refine Bx.pDrew ?_ | with_reducible refine Bx.pDrewN ?_ _ | with_reducible apply Bx.set10 | with_reducible apply Bx.set20 | with_reducible apply Bx.set21 | with_reducible apply Bx.set30 | with_reducible apply Bx.set31 | with_reducible apply Bx.set32 | with_reducible apply Bx.set40 | with_reducible apply Bx.set41 | with_reducible apply Bx.set42 | with_reducible apply Bx.set43 | ((with_reducible refine Bx.set_other ?_ ?_ _); rotate_left; (simp <;> omega)))) Ew3
          have B_r' : Bx w3 (w.heap.size + 1) [.slice none 0 0, .slice none 0 0, .slice none 0 0, .slice none 0 0] := Bx.ext (by repeat (first | with_reducible assumption | with_reducible exact Bx.new _ _ _ _ rfl | ((with_reducible refine Bx.new _ _ _ _ ?_); simp; done) | with_reducible refine Bx.pAlloc ?_ _ | with_reducible refine Bx.pDrew ?_ | with_reducible refine Bx.pDrewN ?_ _ | with_reducible apply Bx.set10 | with_reducible apply Bx.set20 | with_reducible apply Bx.set21 | with_reducible apply Bx.set30 | with_reducible apply Bx.set31 | with_reducible apply Bx.set32 | with_reducible apply Bx.set40 | with_reducible apply Bx.set41 | with_reducible apply Bx.set42 | with_reducible apply Bx.set43 | ((with_reducible refine Bx.set_other ?_ ?_ _); rotate_left; (simp <;> omega)))) Ew3
          have O_s' : (rowC).own (w1.heap.size) (w2.heap.size) w3 [.slice sa S.length sc] (S) := Cd.own.ext (by repeat (first | with_reducible assumption | with_reducible refine Cd.own.pAlloc ?_ _ | with_reducible refine Cd.own.pDrew ?_ | with_reducible refine Cd.own.pDrewN ?_ _ | ((with_reducible refine Cd.own.pSet ?_ ?_ _); rotate_left; (simp <;> omega)))) Ew3
          clear c_t_0 c_t_1 c_t_2 c_t_3 n_t c_r_0 c_r_1 c_r_2 c_r_3 n_r f_r
          clear B_t
          have B_t := B_t'; clear B_t'
          clear B_r
          have B_r := B_r'; clear B_r'
          clear O_s; have O_s := O_s'; clear O_s'
          replace O_x := O_x.wide (lo' := w2.heap.size) (hi' := w3.heap.size) (by first | omega | (simp <;> omega)) (Nat.le_refl _)
          clear Ew3 Xw2
          have c_t_0 := B_t.cell 0 _ rfl
          have c_t_1 := B_t.cell 1 _ rfl
          have c_t_2 := B_t.cell 2 _ rfl
          have c_t_3 := B_t.cell 3 _ rfl
          have n_t := B_t.lt
          have c_r_0 := B_r.cell 0 _ rfl
          have c_r_1 := B_r.cell 1 _ rfl
          have c_r_2 := B_r.cell 2 _ rfl
          have c_r_3 := B_r.cell 3 _ rfl
          have n_r := B_r.lt
          have f_r := B_r.fr
          go_wp2_with fail
          refine (specWrote_c _ d' n _ S _ (diskC.vext H.out.2 (by repeat (first | with_reducible exact Ext.refl _ | with_reducible assumption | with_reducible refine Ext.pAlloc ?_ _ | ((with_reducible refine Ext.pSet ?_ ?_ _); rotate_left; (simp <;> omega)) | with_reducible refine Ext.pDrew ?_ | with_reducible refine Ext.pDrewN ?_ _))) (Cd.own.view (R := rowC) (lo := w1.heap.size) (hi := w2.heap.size) (by repeat (first | with_reducible assumption | with_reducible refine Cd.own.pAlloc ?_ _ | with_reducible refine Cd.own.pDrew ?_ | with_reducible refine Cd.own.pDrewN ?_ _ | ((with_reducible refine Cd.own.pSet ?_ ?_ _); rotate_left; (simp <;> omega)))))).mono ?_
          rw [Hw2.out]
          rintro e w4 ⟨u_y, v_y, rfl, Ew4, O_y⟩
          obtain ⟨⟨a_y, c_y, rfl⟩, b_y, e_y, rfl⟩ := disk_forms O_y.view
          have Xw4 : Ext w w4 := Ext.trans (by repeat (first | with_reducible exact Ext.refl _ | with_reducible assumption | with_reducible refine Ext.pAlloc ?_ _ | ((with_reducible refine Ext.pSet ?_ ?_ _); rotate_left; (simp <;> omega)) | with_reducible refine Ext.pDrew ?_ | with_reducible refine Ext.pDrewN ?_ _)) Ew4
          have zw4 : w3.heap.size + 1 ≤ w4.heap.size := by have := Ew4.size; (try simp at this); omega
          have B_t' : Bx w4 w.heap.size [.slice ua d.1.length uc, .slice va d.2.length vc, .slice ua' d'.1.length uc', .slice va' d'.2.length vc'] := Bx.ext (by repeat (first | with_reducible assumption | with_reducible exact Bx.new _ _ _ _ rfl | ((with_reducible refine Bx.new _ _ _ _ ?_); simp; done) | with_reducible refine Bx.pAlloc ?_ _ | with_reducible refine Bx.pDrew ?_ | with_reducible refine Bx.pDrewN ?_ _ | with_reducible apply Bx.set10 | with_reducible apply Bx.set20 | with_reducible apply Bx.set21 | with_reducible apply Bx.set30 | with_reducible apply Bx.set31 | with_reducible apply Bx.set32 | with_reducible apply Bx.set40 | with_reducible apply Bx.set41 | with_reducible apply Bx.set42 | with_reducible apply Bx.set43 | ((with_reducible refine Bx.set_other ?_ ?_ _); rotate_left; (simp <;> omega)))) Ew4
          have B_r' : Bx w4 (w.heap.size + 1) [.slice none 0 0, .slice none 0 0, .slice none 0 0, .slice none 0 0] := Bx.ext (by repeat (first | with_reducible assumption | with_reducible exact Bx.new _ _ _ _ rfl | ((with_reducible refine Bx.new _ _ _ _ ?_); simp; done) | with_reducible refine Bx.pAlloc ?_ _ | with_reducible refine Bx.pDrew ?_ | with_reducible refine Bx.pDrewN ?_ _ | with_reducible apply Bx.set10 | with_reducible apply Bx.set20 | with_reducible apply Bx.set21 | with_reducible apply Bx.set30 | with_reducible apply Bx.set31 | with_reducible apply Bx.set32 | with_reducible apply Bx.set40 | with_reducible apply Bx.set41 | with_reducible apply Bx.set42 | with_reducible apply Bx.set43 | ((with_reducible refine Bx.set_other ?_ ?_ _); rotate_left; (simp <;> omega)))) Ew4
          have B_x1' : Bx w4 w3.heap.size [.slice a_x ((wrote d n S).1).1.length c_x, .slice b_x ((wrote d n S).1).2.length e_x] := Bx.ext (by repeat (first | with_reducible assumption | with_reducible exact Bx.new _ _ _ _ rfl | ((with_reducible refine Bx.new _ _ _ _ ?_); simp; done) | with_reducible refine Bx.pAlloc ?_ _ | with_reducible refine Bx.pDrew ?_ | with_reducible refine Bx.pDrewN ?_ _ | with_reducible apply Bx.set10 | with_reducible apply Bx.set20 | with_reducible apply Bx.set21 | with_reducible apply Bx.set30 | with_reducible apply Bx.set31 | with_reducible apply Bx.set32 | with_reducible apply Bx.set40 | with_reducible apply Bx.set41 | with_reducible apply Bx.set42 | with_reducible apply Bx.set43 | ((with_reducible refine Bx.set_other ?_ ?_ _); rotate_left; (simp <;> omega)))) Ew4
          have O_s' : (rowC).own (w1.heap.size) (w2.heap.size) w4 [.slice sa S.length sc] (S) := Cd.own.ext (by repeat (first | with_reducible assumption | with_reducible refine Cd.own.pAlloc ?_ _ | with_reducible refine Cd.own.pDrew ?_ | with_reducible refine Cd.own.pDrewN ?_ _ | ((with_reducible refine Cd.own.pSet ?_ ?_ _); rotate_left; (simp <;> omega)))) Ew4
          have O_x' : (diskC).own (w2.heap.size) (w3.heap.size) w4 [.slice a_x ((wrote d n S).1).1.length c_x, .slice b_x ((wrote d n S).1).2.length e_x] ((wrote d n S).1) := Cd.own.ext (by repeat (first | with_reducible assumption | with_reducible refine Cd.own.pAlloc ?_ _ | with_reducible refine Cd.own.pDrew ?_ | with_reducible refine Cd.own.pDrewN ?_ _ | ((with_reducible refine Cd.own.pSet ?_ ?_ _); rotate_left; (simp <;> omega)))) Ew4
          clear c_t_0 c_t_1 c_t_2 c_t_3 n_t c_r_0 c_r_1 c_r_2 c_r_3 n_r f_r
          clear B_t
          have B_t := B_t'; clear B_t'
          clear B_r
          have B_r := B_r'; clear B_r'
          have B_x1 := B_x1'; clear B_x1'
          clear O_s; have O_s := O_s'; clear O_s'
          clear O_x; have O_x := O_x'; clear O_x'
          replace O_y := O_y.wide (lo' := w3.heap.size + 1) (hi' := w4.heap.size) (by first | omega | (simp <;> omega)) (Nat.le_refl _)
          clear Ew4 Xw3
          have c_t_0 := B_t.cell 0 _ rfl
          have c_t_1 := B_t.cell 1 _ rfl
          have c_t_2 := B_t.cell 2 _ rfl
          have c_t_3 := B_t.cell 3 _ rfl
          have n_t := B_t.lt
          have c_r_0 := B_r.cell 0 _ rfl
          have c_r_1 := B_r.cell 1 _ rfl
          have c_r_2 := B_r.cell 2 _ rfl
          have c_r_3 := B_r.cell 3 _ rfl
          have n_r := B_r.lt
          have f_r := B_r.fr
          have c_x1_0 := B_x1.cell 0 _ rfl
          have c_x1_1 := B_x1.cell 1 _ rfl
          have n_x1 := B_x1.lt
          go_wp2_with fail
          refine (l4Copy_c _ (d, d') _ (twoC.vext HT.out (by repeat (first | with_reducible exact Ext.refl _ | with_reducible assumption | with_reducible refine Ext.pAlloc ?_ _ | ((with_reducible refine Ext.pSet ?_ ?_ _); rotate_left; (simp <;> omega)) | with_reducible refine Ext.pDrew ?_ | with_reducible refine Ext.pDrewN ?_ _))) Ok.out).mono ?_
          rintro e w5 ⟨u_o, v_o, x_o, y_o, rfl, Ew5, O_o⟩
          obtain ⟨⟨⟨a_o, c_o, rfl⟩, b_o, e_o, rfl⟩, ⟨p_o, r_o, rfl⟩, q_o, s_o, rfl⟩ := two_forms O_o.view
          have Xw5 : Ext w w5 := Ext.trans (by repeat (first | with_reducible exact Ext.refl _ | with_reducible assumption | with_reducible refine Ext.pAlloc ?_ _ | ((with_reducible refine Ext.pSet ?_ ?_ _); rotate_left; (simp <;> omega)) | with_reducible refine Ext.pDrew ?_ | with_reducible refine Ext.pDrewN ?_ _)) Ew5
          have zw5 : w4.heap.size + 1 ≤ w5.heap.size := by have := Ew5.size; (try simp at this); omega
          have B_t' : Bx w5 w.heap.size [.slice ua d.1.length uc, .slice va d.2.length vc, .slice ua' d'.1.length uc', .slice va' d'.2.length vc'] := Bx.ext (by repeat (first | with_reducible assumption | with_reducible exact Bx.new _ _ _ _ rfl | ((with_reducible refine Bx.new _ _ _ _ ?_); simp; done) | with_reducible refine Bx.pAlloc ?_ _ | with_reducible refine Bx.pDrew ?_ | with_reducible refine Bx.pDrewN ?_ _ | with_reducible apply Bx.set10 | with_reducible apply Bx.set20 | with_reducible apply Bx.set21 | with_reducible apply Bx.set30 | with_reducible apply Bx.set31 | with_reducible apply Bx.set32 | with_reducible apply Bx.set40 | with_reducible apply Bx.set41 | with_reducible apply Bx.set42 | with_reducible apply Bx.set43 | ((with_reducible refine Bx.set_other ?_ ?_ _); rotate_left; (simp <;> omega)))) Ew5
          have B_r' : Bx w5 (w.heap.size + 1) [.slice none 0 0, .slice none 0 0, .slice none 0 0, .slice none 0 0] := Bx.ext (by repeat (first | with_reducible assumption | with_reducible exact Bx.new _ _ _ _ rfl | ((with_reducible refine Bx.new _ _ _ _ ?_); simp; done) | with_reducible refine Bx.pAlloc ?_ _ | with_reducible refine Bx.pDrew ?_ | with_reducible refine Bx.pDrewN ?_ _ | with_reducible apply Bx.set10 | with_reducible apply Bx.set20 | with_reducible apply Bx.set21 | with_reducible apply Bx.set30 | with_reducible apply Bx.set31 | with_reducible apply Bx.set32 | with_reducible apply Bx.set40 | with_reducible apply Bx.set41 | with_reducible apply Bx.set42 | with_reducible apply Bx.set43 | ((with_reducible refine Bx.set_other ?_ ?_ _); rotate_left; (simp <;> omega)))) Ew5
          have B_x1' : Bx w5 w3.heap.size [.slice a_x ((wrote d n S).1).1.length c_x, .slice b_x ((wrote d n S).1).2.length e_x] := Bx.ext (by repeat (first | with_reducible assumption | with_reducible exact Bx.new _ _ _ _ rfl | ((with_reducible refine Bx.new _ _ _ _ ?_); simp; done) | with_reducible refine Bx.pAlloc ?_ _ | with_reducible refine Bx.pDrew ?_ | with_reducible refine Bx.pDrewN ?_ _ | with_reducible apply Bx.set10 | with_reducible apply Bx.set20 | with_reducible apply Bx.set21 | with_reducible apply Bx.set30 | with_reducible apply Bx.set31 | with_reducible apply Bx.set32 | with_reducible apply Bx.set40 | with_reducible apply Bx.set41 | with_reducible apply Bx.set42 | with_reducible apply Bx.set43 | ((with_reducible refine Bx.set_other ?_ ?_ _); rotate_left; (simp <;> omega)))) Ew5
          have B_y1' : Bx w5 w4.heap.size [.slice a_y ((wrote d' n S).1).1.length c_y, .slice b_y ((wrote d' n S).1).2.length e_y] := Bx.ext (by repeat (first | with_reducible assumption | with_reducible exact Bx.new _ _ _ _ rfl | ((with_reducible refine Bx.new _ _ _ _ ?_); simp; done) | with_reducible refine Bx.pAlloc ?_ _ | with_reducible refine Bx.pDrew ?_ | with_reducible refine Bx.pDrewN ?_ _ | with_reducible apply Bx.set10 | with_reducible apply Bx.set20 | with_reducible apply Bx.set21 | with_reducible apply Bx.set30 | with_reducible apply Bx.set31 | with_reducible apply Bx.set32 | with_reducible apply Bx.set40 | with_reducible apply Bx.set41 | with_reducible apply Bx.set42 | with_reducible apply Bx.set43 | ((with_reducible refine Bx.set_other ?_ ?_ _); rotate_left; (simp <;> omega)))) Ew5
          have O_s' : (rowC).own (w1.heap.size) (w2.heap.size) w5 [.slice sa S.length sc] (S) := Cd.own.ext (by repeat (first | with_reducible assumption | with_reducible refine Cd.own.pAlloc ?_ _ | with_reducible refine Cd.own.pDrew ?_ | with_reducible refine Cd.own.pDrewN ?_ _ | ((with_reducible refine Cd.own.pSet ?_ ?_ _); rotate_left; (simp <;> omega)))) Ew5
          have O_x' : (diskC).own (w2.heap.size) (w3.heap.size) w5 [.slice a_x ((wrote d n S).1).1.length c_x, .slice b_x ((wrote d n S).1).2.length e_x] ((wrote d n S).1) := Cd.own.ext (by repeat (first | with_reducible assumption | with_reducible refine Cd.own.pAlloc ?_ _ | with_reducible refine Cd.own.pDrew ?_ | with_reducible refine Cd.own.pDrewN ?_ _ | ((with_reducible refine Cd.own.pSet ?_ ?_ _); rotate_left; (simp <;> omega)))) Ew5
          have O_y' : (diskC).own (w3.heap.size + 1) (w4.heap.size) w5 [.slice a_y ((wrote d' n S).1).1.length c_y, .slice b_y ((wrote d' n S).1).2.length e_y] ((wrote d' n S).1) := Cd.own.ext (by repeat (first | with_reducible assumption | with_reducible refine Cd.own.pAlloc ?_ _ | with_reducible refine Cd.own.pDrew ?_ | with_reducible refine Cd.own.pDrewN ?_ _ | ((with_reducible refine Cd.own.pSet ?_ ?_ _); rotate_left; (simp <;> omega)))) Ew5
          clear c_t_0 c_t_1 c_t_2 c_t_3 n_t c_r_0 c_r_1 c_r_2 c_r_3 n_r f_r c_x1_0 c_x1_1 n_x1
          clear B_t
          have B_t := B_t'; clear B_t'
          clear B_r
          have B_r := B_r'; clear B_r'
          clear B_x1
          have B_x1 := B_x1'; clear B_x1'
          have B_y1 := B_y1'; clear B_y1'
          clear O_s; have O_s := O_s'; clear O_s'
          clear O_x; have O_x := O_x'; clear O_x'
          clear O_y; have O_y := O_y'; clear O_y'
          replace O_o := O_o.wide (lo' := w4.heap.size + 1) (hi' := w5.heap.size) (by first | omega | (simp <;> omega)) (Nat.le_refl _)
          clear Ew5 Xw4
          have c_t_0 := B_t.cell 0 _ rfl
          have c_t_1 := B_t.cell 1 _ rfl
          have c_t_2 := B_t.cell 2 _ rfl
          have c_t_3 := B_t.cell 3 _ rfl
          have n_t := B_t.lt
          have c_r_0 := B_r.cell 0 _ rfl
          have c_r_1 := B_r.cell 1 _ rfl
          have c_r_2 := B_r.cell 2 _ rfl
          have c_r_3 := B_r.cell 3 _ rfl
          have n_r := B_r.lt
          have f_r := B_r.fr
          have c_x1_0 := B_x1.cell 0 _ rfl
          have c_x1_1 := B_x1.cell 1 _ rfl
          have n_x1 := B_x1.lt
          have c_y1_0 := B_y1.cell 0 _ rfl
          have c_y1_1 := B_y1.cell 1 _ rfl
          have n_y1 := B_y1.lt
          go_wp2
          refine bodyPost_ret (v := .tuple #[.agg #[.slice a_o ((d, d')).1.1.length c_o, .slice b_o ((d, d')).1.2.length e_o, .slice p_o ((d, d')).2.1.length r_o, .slice q_o ((d, d')).2.2.length s_o], .bool false]) (by simp [results, Try.results25, go_sem, c_r_0, c_r_1, c_r_2, c_r_3, n_r]) rfl ⟨_, _, _, _, rfl, ?_, ?_⟩
          · repeat (first | with_reducible exact Ext.refl _ | with_reducible assumption | with_reducible refine Ext.pAlloc ?_ _ | ((with_reducible refine Ext.pSet ?_ ?_ _); rotate_left; (simp <;> omega)) | with_reducible refine Ext.pDrew ?_ | with_reducible refine Ext.pDrewN ?_ _)
          · refine Cd.own.wide (lo := w4.heap.size + 1) (hi := w5.heap.size) ?_ (by omega) (by first | (simp [World.setCell]; done) | (simp [World.setCell]; omega))
            repeat (first | with_reducible assumption | with_reducible refine Cd.own.pAlloc ?_ _ | with_reducible refine Cd.own.pDrew ?_ | with_reducible refine Cd.own.pDrewN ?_ _ | ((with_reducible refine Cd.own.pSet ?_ ?_ _); rotate_left; (simp <;> omega)))
    · have hS0 : ((S.length : Int) == 0) = false := by rw [beq_eq_false_iff_ne]; have := List.length_pos_iff.2 hn0; omega
      have Hn := Lib.hid hn0; clear hn0
      cases hw1 : (wrote d n S).2
      · cases hw2 : (wrote d' n S).2
        all_goals
          rw [if_neg (by simp [hw1])]
          have Ht := Lib.hid ht; clear ht
          have Hw1 := Lib.hid hw1; clear hw1
          have Hw2 := Lib.hid hw2; clear hw2
          go_enter Try.func25, Try.ntmps25
          go_wp2_with fail
          refine (specTwoOk_c _ (d, d') _ (twoC.vext HT.out (by repeat (first | with_reducible exact Ext.refl _ | with_reducible assumption | with_reducible refine Ext.pAlloc ?_ _ | ((with_reducible refine Ext.pSet ?_ ?_ _); rotate_left; (simp <;> omega)) | with_reducible refine Ext.pDrew ?_ | with_reducible refine Ext.pDrewN ?_ _)))).mono ?_
          rw [Ht.out]
          rintro e w1 ⟨rfl, Ew1⟩
          have Xw1 : Ext w w1 := Ext.trans (by repeat (first | with_reducible exact Ext.refl _ | with_reducible assumption | with_reducible refine Ext.pAlloc ?_ _ | ((with_reducible refine Ext.pSet ?_ ?_ _); rotate_left; (simp <;> omega)) | with_reducible refine Ext.pDrew ?_ | with_reducible refine Ext.pDrewN ?_ _)) Ew1
          have zw1 : w.heap.size + 1 + 1 ≤ w1.heap.size := by have := Ew1.size; (try simp at this); omega
          have B_t' : Bx w1 w.heap.size [.slice ua d.1.length uc, .slice va d.2.length vc, .slice ua' d'.1.length uc', .slice va' d'.2.length vc'] := Bx.ext (by repeat (first | with_reducible assumption | with_reducible exact Bx.new _ _ _ _ rfl | ((with_reducible refine Bx.new _ _ _ _ ?_); simp; done) | with_reducible refine Bx.pAlloc ?_ _ | with_reducible refine Bx.pDrew ?_ | with_reducible refine Bx.pDrewN ?_ _ | with_reducible apply Bx.set10 | with_reducible apply Bx.set20 | with_reducible apply Bx.set21 | with_reducible apply Bx.set30 | with_reducible apply Bx.set31 | with_reducible apply Bx.set32 | with_reducible apply Bx.set40 | with_reducible apply Bx.set41 | with_reducible apply Bx.set42 | with_reducible apply Bx.set43 | ((with_reducible refine Bx.set_other ?_ ?_ _); rotate_left; (simp <;> omega)))) Ew1
          have B_r' : Bx w1 (w.heap.size + 1) [.slice none 0 0, .slice none 0 0, .slice none 0 0, .slice none 0 0] := Bx.ext (by repeat (first | with_reducible assumption | with_reducible exact Bx.new _ _ _ _ rfl | ((with_reducible refine Bx.new _ _ _ _ ?_); simp; done) | with_reducible refine Bx.pAlloc ?_ _ | with_reducible refine Bx.pDrew ?_ | with_reducible refine Bx.pDrewN ?_ _ | with_reducible apply Bx.set10 | with_reducible apply Bx.set20 | with_reducible apply Bx.set21 | with_reducible apply Bx.set30 | with_reducible apply Bx.set31 | with_reducible apply Bx.set32 | with_reducible apply Bx.set40 | with_reducible apply Bx.set41 | with_reducible apply Bx.set42 | with_reducible apply Bx.set43 | ((with_reducible refine Bx.set_other ?_ ?_ _); rotate_left; (simp <;> omega)))) Ew1
          have B_t := B_t'; clear B_t'
          have B_r := B_r'; clear B_r'
          clear Ew1
          have c_t_0 := B_t.cell 0 _ rfl
          have c_t_1 := B_t.cell 1 _ rfl
          have c_t_2 := B_t.cell 2 _ rfl
          have c_t_3 := B_t.cell 3 _ rfl
          have n_t := B_t.lt
          have c_r_0 := B_r.cell 0 _ rfl
          have c_r_1 := B_r.cell 1 _ rfl
          have c_r_2 := B_r.cell 2 _ rfl
          have c_r_3 := B_r.cell 3 _ rfl
          have n_r := B_r.lt
          have f_r := B_r.fr
          go_wp2_with fail
          refine (specWithSum_c _ row _ (rowC.vext HR.out (by repeat (first | with_reducible exact Ext.refl _ | with_reducible assumption | with_reducible refine Ext.pAlloc ?_ _ | ((with_reducible refine Ext.pSet ?_ ?_ _); rotate_left; (simp <;> omega)) | with_reducible refine Ext.pDrew ?_ | with_reducible refine Ext.pDrewN ?_ _)))).mono ?_
          rw [HS.out]
          rintro e w2 ⟨sv, rfl, Ew2, O_s⟩
          obtain ⟨sa, sc, rfl⟩ := u_slice O_s.view
          have Xw2 : Ext w w2 := Ext.trans (by repeat (first | with_reducible exact Ext.refl _ | with_reducible assumption | with_reducible refine Ext.pAlloc ?_ _ | ((with_reducible refine Ext.pSet ?_ ?_ _); rotate_left; (simp <;> omega)) | with_reducible refine Ext.pDrew ?_ | with_reducible refine Ext.pDrewN ?_ _)) Ew2
          have zw2 : w1.heap.size ≤ w2.heap.size := by have := Ew2.size; (try simp at this); omega
          have B_t' : Bx w2 w.heap.size [.slice ua d.1.length uc, .slice va d.2.length vc, .slice ua' d'.1.length uc', .slice va' d'.2.length vc'] := Bx.ext (by repeat (first | with_reducible assumption | with_reducible exact Bx.new _ _ _ _ rfl | ((with_reducible refine Bx.new _ _ _ _ ?_); simp; done) | with_reducible refine Bx.pAlloc ?_ _ | with_reducible refine Bx.pDrew ?_ | with_reducible refine Bx.pDrewN ?_ _ | with_reducible apply Bx.set10 | with_reducible apply Bx.set20 | with_reducible apply Bx.set21 | with_reducible apply Bx.set30 | with_reducible apply Bx.set31 | with_reducible apply Bx.set32 | with_reducible apply Bx.set40 | with_reducible apply Bx.set41 | with_reducible apply Bx.set42 | with_reducible apply Bx.set43 | ((with_reducible refine Bx.set_other ?_ ?_ _); rotate_left; (simp <;> omega)))) Ew2
          have B_r' : Bx w2 (w.heap.size + 1) [.slice none 0 0, .slice none 0 0, .slice none 0 0, .slice none 0 0] := Bx.ext (by repeat (first | with_reducible assumption | with_reducible exact Bx.new _ _ _ _ rfl | ((with_reducible refine Bx.new _ _ _ _ ?_); simp; done) | with_reducible refine Bx.pAlloc ?_ _ | with_reducible refine Bx.pDrew ?_ | with_reducible refine Bx.pDrewN ?_ _ | with_reducible apply Bx.set10 | with_reducible apply Bx.set20 | with_reducible apply Bx.set21 | with_reducible apply Bx.set30 | with_reducible apply Bx.set31 | with_reducible apply Bx.set32 | with_reducible apply Bx.set40 | with_reducible apply Bx.set41 | with_reducible apply Bx.set42 | with_reducible apply Bx.set43 | ((with_reducible refine Bx.set_other ?_ ?_ _); rotate_left; (simp <;> omega)))) Ew2
          clear c_t_0 c_t_1 c_t_2 c_t_3 n_t c_r_0 c_r_1 c_r_2 c_r_3 n_r f_r
          clear B_t
          have B_t := B_t'; clear B_t'
          clear B_r
          have B_r := B_r'; clear B_r'
          replace O_s := O_s.wide (lo' := w1.heap.size) (hi' := w2.heap.size) (by first | omega | (simp <;> omega)) (Nat.le_refl _)
          clear Ew2 Xw1
          have c_t_0 := B_t.cell 0 _ rfl
          have c_t_1 := B_t.cell 1 _ rfl
          have c_t_2 := B_t.cell 2 _ rfl
          have c_t_3 := B_t.cell 3 _ rfl
          have n_t := B_t.lt
          have c_r_0 := B_r.cell 0 _ rfl
          have c_r_1 := B_r.cell 1 _ rfl
          have c_r_2 := B_r.cell 2 _ rfl
          have c_r_3 := B_r.cell 3 _ rfl
          have n_r := B_r.lt
          have f_r := B_r.fr
          go_wp2_with fail
          refine (specWrote_c _ d n _ S _ (diskC.vext H.out.1 (by repeat (first | with_reducible exact Ext.refl _ | with_reducible assumption | with_reducible refine Ext.pAlloc ?_ _ | ((with_reducible refine Ext.pSet ?_ ?_ _); rotate_left; (simp <;> omega)) | with_reducible refine Ext.pDrew ?_ | with_reducible refine Ext.pDrewN ?_ _))) (Cd.own.view (R := rowC) (lo := w1.heap.size) (hi := w2.heap.size) (by repeat (first | with_reducible assumption | with_reducible refine Cd.own.pAlloc ?_ _ | with_reducible refine Cd.own.pDrew ?_ | with_reducible refine Cd.own.pDrewN ?_ _ | ((with_reducible refine Cd.own.pSet ?_ ?_ _); rotate_left; (simp <;> omega)))))).mono ?_
          rw [Hw1.out]
          rintro e w3 ⟨u_x, v_x, rfl, Ew3, O_x⟩
          obtain ⟨⟨a_x, c_x, rfl⟩, b_x, e_x, rfl⟩ := disk_forms O_x.view
          have Xw3 : Ext w w3 := Ext.trans (by repeat (first | with_reducible exact Ext.refl _ | with_reducible assumption | with_reducible refine Ext.pAlloc ?_ _ | ((with_reducible refine Ext.pSet ?_ ?_ _); rotate_left; (simp <;> omega)) | with_reducible refine Ext.pDrew ?_ | with_reducible refine Ext.pDrewN ?_ _)) Ew3
          have zw3 : w2.heap.size ≤ w3.heap.size := by have := Ew3.size; (try simp at this); omega
          have B_t' : Bx w3 w.heap.size [.slice ua d.1.length uc, .slice va d.2.length vc, .slice ua' d'.1.length uc', .slice va' d'.2.length vc'] := Bx.ext (by repeat (first | with_reducible assumption | with_reducible exact Bx.new _ _ _ _ rfl | ((with_reducible refine Bx.new _ _ _ _ ?_); simp; done) | with_reducible refine Bx.pAlloc ?_ _ | with_reducible refine Bx.pDrew ?_ | with_reducible refine Bx.pDrewN ?_ _ | with_reducible apply Bx.set10 | with_reducible apply Bx.set20 | with_reducible apply Bx.set21 | with_reducible apply Bx.set30 | with_reducible apply Bx.set31 | with_reducible apply Bx.set32 | with_reducible apply Bx.set40 | with_reducible apply Bx.set41 | with_reducible apply Bx.set42 | with_reducible apply Bx.set43 | ((with_reducible refine Bx.set_other ?_ ?_ _); rotate_left; (simp <;> omega)))) Ew3
          have B_r' : Bx w3 (w.heap.size + 1) [.slice none 0 0, .slice none 0 0, .slice none 0 0, .slice none 0 0] := Bx.ext (by repeat (first | with_reducible assumption | with_reducible exact Bx.new _ _ _ _ rfl | ((with_reducible refine Bx.new _ _ _ _ ?_); simp; done) | with_reducible refine Bx.pAlloc ?_ _ | with_reducible refine Bx.pDrew ?_ | with_reducible refine Bx.pDrewN ?_ _ | with_reducible apply Bx.set10 | with_reducible apply Bx.set20 | with_reducible apply Bx.set21 | with_reducible apply Bx.set30 | with_reducible apply Bx.set31 | with_reducible apply Bx.set32 | with_reducible apply Bx.set40 | with_reducible apply Bx.set41 | with_reducible apply Bx.set42 | with_reducible apply Bx.set43 | ((with_reducible refine Bx.set_other ?_ ?_ _); rotate_left; (simp <;> omega)))) Ew3
          have O_s' : (rowC).own (w1.heap.size) (w2.heap.size) w3 [.slice sa S.length sc] (S) := Cd.own.ext (by repeat (first | with_reducible assumption | with_reducible refine Cd.own.pAlloc ?_ _ | with_reducible refine Cd.own.pDrew ?_ | with_reducible refine Cd.own.pDrewN ?_ _ | ((with_reducible refine Cd.own.pSet ?_ ?_ _); rotate_left; (simp <;> omega)))) Ew3
          clear c_t_0 c_t_1 c_t_2 c_t_3 n_t c_r_0 c_r_1 c_r_2 c_r_3 n_r f_r
          clear B_t
          have B_t := B_t'; clear B_t'
          clear B_r
          have B_r := B_r'; clear B_r'
          clear O_s; have O_s := O_s'; clear O_s'
          replace O_x := O_x.wide (lo' := w2.heap.size) (hi' := w3.heap.size) (by first | omega | (simp <;> omega)) (Nat.le_refl _)
          clear Ew3 Xw2
          have c_t_0 := B_t.cell 0 _ rfl
          have c_t_1 := B_t.cell 1 _ rfl
          have c_t_2 := B_t.cell 2 _ rfl
          have c_t_3 := B_t.cell 3 _ rfl
          have n_t := B_t.lt
          have c_r_0 := B_r.cell 0 _ rfl
          have c_r_1 := B_r.cell 1 _ rfl
          have c_r_2 := B_r.cell 2 _ rfl
          have c_r_3 := B_r.cell 3 _ rfl
          have n_r := B_r.lt
          have f_r := B_r.fr
          go_wp2_with fail
          refine (specWrote_c _ d' n _ S _ (diskC.vext H.out.2 (by repeat (first | with_reducible exact Ext.refl _ | with_reducible assumption | with_reducible refine Ext.pAlloc ?_ _ | ((with_reducible refine Ext.pSet ?_ ?_ _); rotate_left; (simp <;> omega)) | with_reducible refine Ext.pDrew ?_ | with_reducible refine Ext.pDrewN ?_ _))) (Cd.own.view (R := rowC) (lo := w1.heap.size) (hi := w2.heap.size) (by repeat (first | with_reducible assumption | with_reducible refine Cd.own.pAlloc ?_ _ | with_reducible refine Cd.own.pDrew ?_ | with_reducible refine Cd.own.pDrewN ?_ _ | ((with_reducible refine Cd.own.pSet ?_ ?_ _); rotate_left; (simp <;> omega)))))).mono ?_
          rw [Hw2.out]
          rintro e w4 ⟨u_y, v_y, rfl, Ew4, O_y⟩
          obtain ⟨⟨a_y, c_y, rfl⟩, b_y, e_y, rfl⟩ := disk_forms O_y.view
          have Xw4 : Ext w w4 := Ext.trans (by repeat (first | with_reducible exact Ext.refl _ | with_reducible assumption | with_reducible refine Ext.pAlloc ?_ _ | ((with_reducible refine Ext.pSet ?_ ?_ _); rotate_left; (simp <;> omega)) | with_reducible refine Ext.pDrew ?_ | with_reducible refine Ext.pDrewN ?_ _)) Ew4
          have zw4 : w3.heap.size + 1 ≤ w4.heap.size := by have := Ew4.size; (try simp at this); omega
          have B_t' : Bx w4 w.heap.size [.slice ua d.1.length uc, .slice va d.2.length vc, .slice ua' d'.1.length uc', .slice va' d'.2.length vc'] := Bx.ext (by repeat (first | with_reducible assumption | with_reducible exact Bx.new _ _ _ _ rfl | ((with_reducible refine Bx.new _ _ _ _ ?_); simp; done) | with_reducible refine Bx.pAlloc ?_ _ | with_reducible refine Bx.pDrew ?_ | with_reducible refine Bx.pDrewN ?_ _ | with_reducible apply Bx.set10 | with_reducible apply Bx.set20 | with_reducible apply Bx.set21 | with_reducible apply Bx.set30 | with_reducible apply Bx.set31 | with_reducible apply Bx.set32 | with_reducible apply Bx.set40 | with_reducible apply Bx.set41 | with_reducible apply Bx.set42 | with_reducible apply Bx.set43 | ((with_reducible refine Bx.set_other ?_ ?_ _); rotate_left; (simp <;> omega)))) Ew4
          have B_r' : Bx w4 (w.heap.size + 1) [.slice none 0 0, .slice none 0 0, .slice none 0 0, .slice none 0 0] := Bx.ext (by repeat (first | with_reducible assumption | with_reducible exact Bx.new _ _ _ _ rfl | ((with_reducible refine Bx.new _ _ _ _ ?_); simp; done) | with_reducible refine Bx.pAlloc ?_ _ | with_reducible refine Bx.pDrew ?_ | with_reducible refine Bx.pDrewN ?_ _ | with_reducible apply Bx.set10 | with_reducible apply Bx.set20 | with_reducible apply Bx.set21 | with_reducible apply Bx.set30 | with_reducible apply Bx.set31 | with_reducible apply Bx.set32 | with_reducible apply Bx.set40 | with_reducible apply Bx.set41 | with_reducible apply Bx.set42 | with_reducible apply Bx.set43 | ((with_reducible refine Bx.set_other ?_ ?_ _); rotate_left; (simp <;> omega)))) Ew4
          have B_x1' : Bx w4 w3.heap.size [.slice a_x ((wrote d n S).1).1.length c_x, .slice b_x ((wrote d n S).1).2.length e_x] := Bx.ext (by repeat (first | with_reducible assumption | with_reducible exact Bx.new _ _ _ _ rfl | ((with_reducible refine Bx.new _ _ _ _ ?_); simp; done) | with_reducible refine Bx.pAlloc ?_ _ | with_reducible refine Bx.pDrew ?_ | with_reducible refine Bx.pDrewN ?_ _ | with_reducible apply Bx.set10 | with_reducible apply Bx.set20 | with_reducible apply Bx.set21 | with_reducible apply Bx.set30 | with_reducible apply Bx.set31 | with_reducible apply Bx.set32 | with_reducible apply Bx.set40 | with_reducible apply Bx.set41 | with_reducible apply Bx.set42 | with_reducible apply Bx.set43 | ((with_reducible refine Bx.set_other ?_ ?_ _); rotate_left; (simp <;> omega)))) Ew4
          have O_s' : (rowC).own (w1.heap.size) (w2.heap.size) w4 [.slice sa S.length sc] (S) := Cd.own.ext (by repeat (first | with_reducible assumption | with_reducible refine Cd.own.pAlloc ?_ _ | with_reducible refine Cd.own.pDrew ?_ | with_reducible refine Cd.own.pDrewN ?_ _ | ((with_reducible refine Cd.own.pSet ?_ ?_ _); rotate_left; (simp <;> omega)))) Ew4
          have O_x' : (diskC).own (w2.heap.size) (w3.heap.size) w4 [.slice a_x ((wrote d n S).1).1.length c_x, .slice b_x ((wrote d n S).1).2.length e_x] ((wrote d n S).1) := Cd.own.ext (by repeat (first | with_reducible assumption | with_reducible refine Cd.own.pAlloc ?_ _ | with_reducible refine Cd.own.pDrew ?_ | with_reducible refine Cd.own.pDrewN ?_ _ | ((with_reducible refine Cd.own.pSet ?_ ?_ _); rotate_left; (simp <;> omega)))) Ew4
          clear c_t_0 c_t_1 c_t_2 c_t_3 n_t c_r_0 c_r_1 c_r_2 c_r_3 n_r f_r
          clear B_t
          have B_t := B_t'; clear B_t'
          clear B_r
          have B_r := B_r'; clear B_r'
          have B_x1 := B_x1'; clear B_x1'
          clear O_s; have O_s := O_s'; clear O_s'
          clear O_x; have O_x := O_x'; clear O_x'
          replace O_y := O_y.wide (lo' := w3.heap.size + 1) (hi' := w4.heap.size) (by first | omega | (simp <;> omega)) (Nat.le_refl _)
          clear Ew4 Xw3
          have c_t_0 := B_t.cell 0 _ rfl
          have c_t_1 := B_t.cell 1 _ rfl
          have c_t_2 := B_t.cell 2 _ rfl
          have c_t_3 := B_t.cell 3 _ rfl
          have n_t := B_t.lt
          have c_r_0 := B_r.cell 0 _ rfl
          have c_r_1 := B_r.cell 1 _ rfl
          have c_r_2 := B_r.cell 2 _ rfl
          have c_r_3 := B_r.cell 3 _ rfl
          have n_r := B_r.lt
          have f_r := B_r.fr
          have c_x1_0 := B_x1.cell 0 _ rfl
          have c_x1_1 := B_x1.cell 1 _ rfl
          have n_x1 := B_x1.lt
          go_wp2_with fail
          refine (l4Copy_c _ (d, d') _ (twoC.vext HT.out (by repeat (first | with_reducible exact Ext.refl _ | with_reducible assumption | with_reducible refine Ext.pAlloc ?_ _ | ((with_reducible refine Ext.pSet ?_ ?_ _); rotate_left; (simp <;> omega)) | with_reducible refine Ext.pDrew ?_ | with_reducible refine Ext.pDrewN ?_ _))) Ok.out).mono ?_
          rintro e w5 ⟨u_o, v_o, x_o, y_o, rfl, Ew5, O_o⟩
          obtain ⟨⟨⟨a_o, c_o, rfl⟩, b_o, e_o, rfl⟩, ⟨p_o, r_o, rfl⟩, q_o, s_o, rfl⟩ := two_forms O_o.view
          have Xw5 : Ext w w5 := Ext.trans (by repeat (first | with_reducible exact Ext.refl _ | with_reducible assumption | with_reducible refine Ext.pAlloc ?_ _ | ((with_reducible refine Ext.pSet ?_ ?_ _); rotate_left; (simp <;> omega)) | with_reducible refine Ext.pDrew ?_ | with_reducible refine Ext.pDrewN ?_ _)) Ew5
          have zw5 : w4.heap.size + 1 ≤ w5.heap.size := by have := Ew5.size; (try simp at this); omega
          have B_t' : Bx w5 w.heap.size [.slice ua d.1.length uc, .slice va d.2.length vc, .slice ua' d'.1.length uc', .slice va' d'.2.length vc'] := Bx.ext (by repeat (first | with_reducible assumption | with_reducible exact Bx.new _ _ _ _ rfl | ((with_reducible refine Bx.new _ _ _ _ ?_); simp; done) | with_reducible refine Bx.pAlloc ?_ _ | with_reducible refine Bx.pDrew ?_ | with_reducible refine Bx.pDrewN ?_ _ | with_reducible apply Bx.set10 | with_reducible apply Bx.set20 | with_reducible apply Bx.set21 | with_reducible apply Bx.set30 | with_reducible apply Bx.set31 | with_reducible apply Bx.set32 | with_reducible apply Bx.set40 | with_reducible apply Bx.set41 | with_reducible apply Bx.set42 | with_reducible apply Bx.set43 | ((with_reducible refine Bx.set_other ?_ ?_ _); rotate_left; (simp <;> omega)))) Ew5
          have B_r' : Bx w5 (w.heap.size + 1) [.slice none 0 0, .slice none 0 0, .slice none 0 0, .slice none 0 0] := Bx.ext (by repeat (first | with_reducible assumption | with_reducible exact Bx.new _ _ _ _ rfl | ((with_reducible refine Bx.new _ _ _ _ ?_); simp; done) | with_reducible refine Bx.pAlloc ?_ _ | with_reducible refine Bx.pDrew ?_ | with_reducible refine Bx.pDrewN ?_ _ | with_reducible apply Bx.set10 | with_reducible apply Bx.set20 | with_reducible apply Bx.set21 | with_reducible apply Bx.set30 | with_reducible apply Bx.set31 | with_reducible apply Bx.set32 | with_reducible apply Bx.set40 | with_reducible apply Bx.set41 | with_reducible apply Bx.set42 | with_reducible apply Bx.set43 | ((with_reducible refine Bx.set_other ?_ ?_ _); rotate_left; (simp <;> omega)))) Ew5
          have B_x1' : Bx w5 w3.heap.size [.slice a_x ((wrote d n S).1).1.length c_x, .slice b_x ((wrote d n S).1).2.length e_x] := Bx.ext (by repeat (first | with_reducible assumption | with_reducible exact Bx.new _ _ _ _ rfl | ((with_reducible refine Bx.new _ _ _ _ ?_); simp; done) | with_reducible refine Bx.pAlloc ?_ _ | with_reducible refine Bx.pDrew ?_ | with_reducible refine Bx.pDrewN ?_ _ | with_reducible apply Bx.set10 | with_reducible apply Bx.set20 | with_reducible apply Bx.set21 | with_reducible apply Bx.set30 | with_reducible apply Bx.set31 | with_reducible apply Bx.set32 | with_reducible apply Bx.set40 | with_reducible apply Bx.set41 | with_reducible apply Bx.set42 | with_reducible apply Bx.set43 | ((with_reducible refine Bx.set_other ?_ ?_ _); rotate_left; (simp <;> omega)))) Ew5
          have B_y1' : Bx w5 w4.heap.size [.slice a_y ((wrote d' n S).1).1.length c_y, .slice b_y ((wrote d' n S).1).2.length e_y] := Bx.ext (by repeat (first | with_reducible assumption | with_reducible exact Bx.new _ _ _ _ rfl | ((with_reducible refine Bx.new _ _ _ _ ?_); simp; done) | with_reducible refine Bx.pAlloc ?_ _ | with_reducible refine Bx.pDrew ?_ | with_reducible refine Bx.pDrewN ?_ _ | with_reducible apply Bx.set10 | with_reducible apply Bx.set20 | with_reducible apply Bx.set21 | with_reducible apply Bx.set30 | with_reducible apply Bx.set31 | with_reducible apply Bx.set32 | with_reducible apply Bx.set40 | with_reducible apply Bx.set41 | with_reducible apply Bx.set42 | with_reducible apply Bx.set43 | ((with_reducible refine Bx.set_other ?_ ?_ _); rotate_left; (simp <;> omega)))) Ew5
          have O_s' : (rowC).own (w1.heap.size) (w2.heap.size) w5 [.slice sa S.length sc] (S) := Cd.own.ext (by repeat (first | with_reducible assumption | with_reducible refine Cd.own.pAlloc ?_ _ | with_reducible refine Cd.own.pDrew ?_ | with_reducible refine Cd.own.pDrewN ?_ _ | ((with_reducible refine Cd.own.pSet ?_ ?_ _); rotate_left; (simp <;> omega)))) Ew5
          have O_x' : (diskC).own (w2.heap.size) (w3.heap.size) w5 [.slice a_x ((wrote d n S).1).1.length c_x, .slice b_x ((wrote d n S).1).2.length e_x] ((wrote d n S).1) := Cd.own.ext (by repeat (first | with_reducible assumption | with_reducible refine Cd.own.pAlloc ?_ _ | with_reducible refine Cd.own.pDrew ?_ | with_reducible refine Cd.own.pDrewN ?_ _ | ((with_reducible refine Cd.own.pSet ?_ ?_ _); rotate_left; (simp <;> omega)))) Ew5
          have O_y' : (diskC).own (w3.heap.size + 1) (w4.heap.size) w5 [.slice a_y ((wrote d' n S).1).1.length c_y, .slice b_y ((wrote d' n S).1).2.length e_y] ((wrote d' n S).1) := Cd.own.ext (by repeat (first | with_reducible assumption | with_reducible refine Cd.own.pAlloc ?_ _ | with_reducible refine Cd.own.pDrew ?_ | with_reducible refine Cd.own.pDrewN ?_ _ | ((with_reducible refine Cd.own.pSet ?_ ?_ _); rotate_left; (simp <;> omega)))) Ew5
          clear c_t_0 c_t_1 c_t_2 c_t_3 n_t c_r_0 c_r_1 c_r_2 c_r_3 n_r f_r c_x1_0 c_x1_1 n_x1
          clear B_t
          have B_t := B_t'; clear B_t'
          clear B_r
          have B_r := B_r'; clear B_r'
          clear B_x1
          have B_x1 := B_x1'; clear B_x1'
          have B_y1 := B_y1'; clear B_y1'
          clear O_s; have O_s := O_s'; clear O_s'
          clear O_x; have O_x := O_x'; clear O_x'
          clear O_y; have O_y := O_y'; clear O_y'
          replace O_o := O_o.wide (lo' := w4.heap.size + 1) (hi' := w5.heap.size) (by first | omega | (simp <;> omega)) (Nat.le_refl _)
          clear Ew5 Xw4
          have c_t_0 := B_t.cell 0 _ rfl
          have c_t_1 := B_t.cell 1 _ rfl
          have c_t_2 := B_t.cell 2 _ rfl
          have c_t_3 := B_t.cell 3 _ rfl
          have n_t := B_t.lt
          have c_r_0 := B_r.cell 0 _ rfl
          have c_r_1 := B_r.cell 1 _ rfl
          have c_r_2 := B_r.cell 2 _ rfl
          have c_r_3 := B_r.cell 3 _ rfl
          have n_r := B_r.lt
          have f_r := B_r.fr
          have c_x1_0 := B_x1.cell 0 _ rfl
          have c_x1_1 := B_x1.cell 1 _ rfl
          have n_x1 := B_x1.lt
          have c_y1_0 := B_y1.cell 0 _ rfl
          have c_y1_1 := B_y1.cell 1 _ rfl
          have n_y1 := B_y1.lt
          go_wp2
          refine bodyPost_ret (v := .tuple #[.agg #[.slice a_o ((d, d')).1.1.length c_o, .slice b_o ((d, d')).1.2.length e_o, .slice p_o ((d, d')).2.1.length r_o, .slice q_o ((d, d')).2.2.length s_o], .bool false]) (by simp [results, Try.results25, go_sem, c_r_0, c_r_1, c_r_2, c_r_3, n_r]) rfl ⟨_, _, _, _, rfl, ?_, ?_⟩
          · repeat (first | with_reducible exact Ext.refl _ | with_reducible assumption | with_reducible refine Ext.pAlloc ?_ _ | ((with_reducible refine Ext.pSet ?_ ?_ _); rotate_left; (simp <;> omega)) | with_reducible refine Ext.pDrew ?_ | with_reducible refine Ext.pDrewN ?_ _)
          · refine Cd.own.wide (lo := w4.heap.size + 1) (hi := w5.heap.size) ?_ (by omega) (by first | (simp [World.setCell]; done) | (simp [World.setCell]; omega))
            repeat (first | with_reducible assumption | with_reducible refine Cd.own.pAlloc ?_ _ | with_reducible refine Cd.own.pDrew ?_ | with_reducible refine Cd.own.pDrewN ?_ _ | ((with_reducible refine Cd.own.pSet ?_ ?_ _); rotate_left; (simp <;> omega)))
      · cases hw2 : (wrote d' n S).2
        · rw [if_neg (by simp [hw2])]
          have Ht := Lib.hid ht; clear ht
          have Hw1 := Lib.hid hw1; clear hw1
          have Hw2 := Lib.hid hw2; clear hw2
          go_enter Try.func25, Try.ntmps25
          go_wp2_with fail
          refine (specTwoOk_c _ (d, d') _ (twoC.vext HT.out (by repeat (first | with_reducible exact Ext.refl _ | with_reducible assumption | with_reducible refine Ext.pAlloc ?_ _ | ((with_reducible refine Ext.pSet ?_ ?_ _); rotate_left; (simp <;> omega)) | with_reducible refine Ext.pDrew ?_ | with_reducible refine Ext.pDrewN ?_ _)))).mono ?_
          rw [Ht.out]
          rintro e w1 ⟨rfl, Ew1⟩
          have Xw1 : Ext w w1 := Ext.trans (by repeat (first | with_reducible exact Ext.refl _ | with_reducible assumption | with_reducible refine Ext.pAlloc ?_ _ | ((with_reducible refine Ext.pSet ?_ ?_ _); rotate_left; (simp <;> omega)) | with_reducible refine Ext.pDrew ?_ | with_reducible refine Ext.pDrewN ?_ _)) Ew1
          have zw1 : w.heap.size + 1 + 1 ≤ w1.heap.size := by have := Ew1.size; (try simp at this); omega
          have B_t' : Bx w1 w.heap.size [.slice ua d.1.length uc, .slice va d.2.length vc, .slice ua' d'.1.length uc', .slice va' d'.2.length vc'] := Bx.ext (by repeat (first | with_reducible assumption | with_reducible exact Bx.new _ _ _ _ rfl | ((with_reducible refine Bx.new _ _ _ _ ?_); simp; done) | with_reducible refine Bx.pAlloc ?_ _ | with_reducible refine Bx.pDrew ?_ | with_reducible refine Bx.pDrewN ?_ _ | with_reducible apply Bx.set10 | with_reducible apply Bx.set20 | with_reducible apply Bx.set21 | with_reducible apply Bx.set30 | with_reducible apply Bx.set31 | with_reducible apply Bx.set32 | with_reducible apply Bx.set40 | with_reducible apply Bx.set41 | with_reducible apply Bx.set42 | with_reducible apply Bx.set43 | ((with_reducible refine Bx.set_other ?_ ?_ _); rotate_left; (simp <;> omega)))) Ew1
          have B_r' : Bx w1 (w.heap.size + 1) [.slice none 0 0, .slice none 0 0, .slice none 0 0, .slice none 0 0] := Bx.ext (by repeat (first | with_reducible assumption | with_reducible exact Bx.new _ _ _ _ rfl | ((with_reducible refine Bx.new _ _ _ _ ?_); simp; done) | with_reducible refine Bx.pAlloc ?_ _ | with_reducible refine Bx.pDrew ?_ | with_reducible refine Bx.pDrewN ?_ _ | with_reducible apply Bx.set10 | with_reducible apply Bx.set20 | with_reducible apply Bx.set21 | with_reducible apply Bx.set30 | with_reducible apply Bx.set31 | with_reducible apply Bx.set32 | with_reducible apply Bx.set40 | with_reducible apply Bx.set41 | with_reducible apply Bx.set42 | with_reducible apply Bx.set43 | ((with_reducible refine Bx.set_other ?_ ?_ _); rotate_left; (simp <;> omega)))) Ew1
          have B_t := B_t'; clear B_t'
          have B_r := B_r'; clear B_r'
          clear Ew1
          have c_t_0 := B_t.cell 0 _ rfl
          have c_t_1 := B_t.cell 1 _ rfl
          have c_t_2 := B_t.cell 2 _ rfl
          have c_t_3 := B_t.cell 3 _ rfl
          have n_t := B_t.lt
          have c_r_0 := B_r.cell 0 _ rfl
          have c_r_1 := B_r.cell 1 _ rfl
          have c_r_2 := B_r.cell 2 _ rfl
          have c_r_3 := B_r.cell 3 _ rfl
          have n_r := B_r.lt
          have f_r := B_r.fr
          go_wp2_with fail
          refine (specWithSum_c _ row _ (rowC.vext HR.out (by repeat (first | with_reducible exact Ext.refl _ | with_reducible assumption | with_reducible refine Ext.pAlloc ?_ _ | ((with_reducible refine Ext.pSet ?_ ?_ _); rotate_left; (simp <;> omega)) | with_reducible refine Ext.pDrew ?_ | with_reducible refine Ext.pDrewN ?_ _)))).mono ?_
          rw [HS.out]
          rintro e w2 ⟨sv, rfl, Ew2, O_s⟩
          obtain ⟨sa, sc, rfl⟩ := u_slice O_s.view
          have Xw2 : Ext w w2 := Ext.trans (by repeat (first | with_reducible exact Ext.refl _ | with_reducible assumption | with_reducible refine Ext.pAlloc ?_ _ | ((with_reducible refine Ext.pSet ?_ ?_ _); rotate_left; (simp <;> omega)) | with_reducible refine Ext.pDrew ?_ | with_reducible refine Ext.pDrewN ?_ _)) Ew2
          have zw2 : w1.heap.size ≤ w2.heap.size := by have := Ew2.size; (try simp at this); omega
          have B_t' : Bx w2 w.heap.size [.slice ua d.1.length uc, .slice va d.2.length vc, .slice ua' d'.1.length uc', .slice va' d'.2.length vc'] := Bx.ext (by repeat (first | with_reducible assumption | with_reducible exact Bx.new _ _ _ _ rfl | ((with_reducible refine Bx.new _ _ _ _ ?_); simp; done) | with_reducible refine Bx.pAlloc ?_ _ | with_reducible refine Bx.pDrew ?_ | with_reducible refine Bx.pDrewN ?_ _ | with_reducible apply Bx.set10 | with_reducible apply Bx.set20 | with_reducible apply Bx.set21 | with_reducible apply Bx.set30 | with_reducible apply Bx.set31 | with_reducible apply Bx.set32 | with_reducible apply Bx.set40 | with_reducible apply Bx.set41 | with_reducible apply Bx.set42 | with_reducible apply Bx.set43 | ((with_reducible refine Bx.set_other ?_ ?_ _); rotate_left; (simp <;> omega)))) Ew2
          have B_r' : Bx w2 (w.heap.size + 1) [.slice none 0 0, .slice none 0 0, .slice none 0 0, .slice none 0 0] := Bx.ext (by repeat (first | with_reducible assumption | with_reducible exact Bx.new _ _ _ _ rfl | ((with_reducible refine Bx.new _ _ _ _ ?_); simp; done) | with_reducible refine Bx.pAlloc ?_ _ | with_reducible refine Bx.pDrew ?_ | with_reducible refine Bx.pDrewN ?_ _ | with_reducible apply Bx.set10 | with_reducible apply Bx.set20 | with_reducible apply Bx.set21 | with_reducible apply Bx.set30 | with_reducible apply Bx.set31 | with_reducible apply Bx.set32 | with_reducible apply Bx.set40 | with_reducible apply Bx.set41 | with_reducible apply Bx.set42 | with_reducible apply Bx.set43 | ((with_reducible refine Bx.set_other ?_ ?_ _); rotate_left; (simp <;> omega)))) Ew2
          clear c_t_0 c_t_1 c_t_2 c_t_3 n_t c_r_0 c_r_1 c_r_2 c_r_3 n_r f_r
          clear B_t
          have B_t := B_t'; clear B_t'
          clear B_r
          have B_r := B_r'; clear B_r'
          replace O_s := O_s.wide (lo' := w1.heap.size) (hi' := w2.heap.size) (by first | omega | (simp <;> omega)) (Nat.le_refl _)
          clear Ew2 Xw1
          have c_t_0 := B_t.cell 0 _ rfl
          have c_t_1 := B_t.cell 1 _ rfl
          have c_t_2 := B_t.cell 2 _ rfl
          have c_t_3 := B_t.cell 3 _ rfl
          have n_t := B_t.lt
          have c_r_0 := B_r.cell 0 _ rfl
          have c_r_1 := B_r.cell 1 _ rfl
          have c_r_2 := B_r.cell 2 _ rfl
          have c_r_3 := B_r.cell 3 _ rfl
          have n_r := B_r.lt
          have f_r := B_r.fr
          go_wp2_with fail
          refine (specWrote_c _ d n _ S _ (diskC.vext H.out.1 (by repeat (first | with_reducible exact Ext.refl _ | with_reducible assumption | with_reducible refine Ext.pAlloc ?_ _ | ((with_reducible refine Ext.pSet ?_ ?_ _); rotate_left; (simp <;> omega)) | with_reducible refine Ext.pDrew ?_ | with_reducible refine Ext.pDrewN ?_ _))) (Cd.own.view (R := rowC) (lo := w1.heap.size) (hi := w2.heap.size) (by repeat (first | with_reducible assumption | with_reducible refine Cd.own.pAlloc ?_ _ | with_reducible refine Cd.own.pDrew ?_ | with_reducible refine Cd.own.pDrewN ?_ _ | ((with_reducible refine Cd.own.pSet ?_ ?_ _); rotate_left; (simp <;> omega)))))).mono ?_
          rw [Hw1.out]
          rintro e w3 ⟨u_x, v_x, rfl, Ew3, O_x⟩
          obtain ⟨⟨a_x, c_x, rfl⟩, b_x, e_x, rfl⟩ := disk_forms O_x.view
          have Xw3 : Ext w w3 := Ext.trans (by repeat (first | with_reducible exact Ext.refl _ | with_reducible assumption | with_reducible refine Ext.pAlloc ?_ _ | ((with_reducible refine Ext.pSet ?_ ?_ _); rotate_left; (simp <;> omega)) | with_reducible refine Ext.pDrew ?_ | with_reducible refine Ext.pDrewN ?_ _)) Ew3
          have zw3 : w2.heap.size ≤ w3.heap.size := by have := Ew3.size; (try simp at this); omega
          have B_t' : Bx w3 w.heap.size [.slice ua d.1.length uc, .slice va d.2.length vc, .slice ua' d'.1.length uc', .slice va' d'.2.length vc'] := Bx.ext (by repeat (first | with_reducible assumption | with_reducible exact Bx.new _ _ _ _ rfl | ((with_reducible refine Bx.new _ _ _ _ ?_); simp; done) | with_reducible refine Bx.pAlloc ?_ _ | with_reducible refine Bx.pDrew ?_ | with_reducible refine Bx.pDrewN ?_ _ | with_reducible apply Bx.set10 | with_reducible apply Bx.set20 | with_reducible apply Bx.set21 | with_reducible apply Bx.set30 | with_reducible apply Bx.set31 | with_reducible apply Bx.set32 | with_reducible apply Bx.set40 | with_reducible apply Bx.set41 | with_reducible apply Bx.set42 | with_reducible apply Bx.set43 | ((with_reducible refine Bx.set_other ?_ ?_ _); rotate_left; (simp <;> omega)))) Ew3
          have B_r' : Bx w3 (w.heap.size + 1) [.slice none 0 0, .slice none 0 0, .slice none 0 0, .slice none 0 0] := Bx.ext (by repeat (first | with_reducible assumption | with_reducible exact Bx.new _ _ _ _ rfl | ((with_reducible refine Bx.new _ _ _ _ ?_); simp; done) | with_reducible refine Bx.pAlloc ?_ _ | with_reducible refine Bx.pDrew ?_ | with_reducible refine Bx.pDrewN ?_ _ | with_reducible apply Bx.set10 | with_reducible apply Bx.set20 | with_reducible apply Bx.set21 | with_reducible apply Bx.set30 | with_reducible apply Bx.set31 | with_reducible apply Bx.set32 | with_reducible apply Bx.set40 | with_reducible apply Bx.set41 | with_reducible apply Bx.set42 | with_reducible apply Bx.set43 | ((with_reducible refine Bx.set_other ?_ ?_ _); rotate_left; (simp <;> omega)))) Ew3
          have O_s' : (rowC).own (w1.heap.size) (w2.heap.size) w3 [.slice sa S.length sc] (S) := Cd.own.ext (by repeat (first | with_reducible assumption | with_reducible refine Cd.own.pAlloc ?_ _ | with_reducible refine Cd.own.pDrew ?_ | with_reducible refine Cd.own.pDrewN ?_ _ | ((with_reducible refine Cd.own.pSet ?_ ?_ _); rotate_left; (simp <;> omega)))) Ew3
          clear c_t_0 c_t_1 c_t_2 c_t_3 n_t c_r_0 c_r_1 c_r_2 c_r_3 n_r f_r
          clear B_t
          have B_t := B_t'; clear B_t'
          clear B_r
          have B_r := B_r'; clear B_r'
          clear O_s; have O_s := O_s'; clear O_s'
          replace O_x := O_x.wide (lo' := w2.heap.size) (hi' := w3.heap.size) (by first | omega | (simp <;> omega)) (Nat.le_refl _)
          clear Ew3 Xw2
          have c_t_0 := B_t.cell 0 _ rfl
          have c_t_1 := B_t.cell 1 _ rfl
          have c_t_2 := B_t.cell 2 _ rfl
          have c_t_3 := B_t.cell 3 _ rfl
          have n_t := B_t.lt
          have c_r_0 := B_r.cell 0 _ rfl
          have c_r_1 := B_r.cell 1 _ rfl
          have c_r_2 := B_r.cell 2 _ rfl
          have c_r_3 := B_r.cell 3 _ rfl
          have n_r := B_r.lt
          have f_r := B_r.fr
          go_wp2_with fail
          refine (specWrote_c _ d' n _ S _ (diskC.vext H.out.2 (by repeat (first | with_reducible exact Ext.refl _ | with_reducible assumption | with_reducible refine Ext.pAlloc ?_ _ | ((with_reducible refine Ext.pSet ?_ ?_ _); rotate_left; (simp <;> omega)) | with_reducible refine Ext.pDrew ?_ | with_reducible refine Ext.pDrewN ?_ _))) (Cd.own.view (R := rowC) (lo := w1.heap.size) (hi := w2.heap.size) (by repeat (first | with_reducible assumption | with_reducible refine Cd.own.pAlloc ?_ _ | with_reducible refine Cd.own.pDrew ?_ | with_reducible refine Cd.own.pDrewN ?_ _ | ((with_reducible refine Cd.own.pSet ?_ ?_ _); rotate_left; (simp <;> omega)))))).mono ?_
          rw [Hw2.out]
          rintro e w4 ⟨u_y, v_y, rfl, Ew4, O_y⟩
          obtain ⟨⟨a_y, c_y, rfl⟩, b_y, e_y, rfl⟩ := disk_forms O_y.view
          have Xw4 : Ext w w4 := Ext.trans (by repeat (first | with_reducible exact Ext.refl _ | with_reducible assumption | with_reducible refine Ext.pAlloc ?_ _ | ((with_reducible refine Ext.pSet ?_ ?_ _); rotate_left; (simp <;> omega)) | with_reducible refine Ext.pDrew ?_ | with_reducible refine Ext.pDrewN ?_ _)) Ew4
          have zw4 : w3.heap.size + 1 ≤ w4.heap.size := by have := Ew4.size; (try simp at this); omega
          have B_t' : Bx w4 w.heap.size [.slice ua d.1.length uc, .slice va d.2.length vc, .slice ua' d'.1.length uc', .slice va' d'.2.length vc'] := Bx.ext (by repeat (first | with_reducible assumption | with_reducible exact Bx.new _ _ _ _ rfl | ((with_reducible refine Bx.new _ _ _ _ ?_); simp; done) | with_reducible refine Bx.pAlloc ?_ _ | with_reducible refine Bx.pDrew ?_ | with_reducible refine Bx.pDrewN ?_ _ | with_reducible apply Bx.set10 | with_reducible apply Bx.set20 | with_reducible apply Bx.set21 | with_reducible apply Bx.set30 | with_reducible apply Bx.set31 | with_reducible apply Bx.set32 | with_reducible apply Bx.set40 | with_reducible apply Bx.set41 | with_reducible apply Bx.set42 | with_reducible apply Bx.set43 | ((with_reducible refine Bx.set_other ?_ ?_ _); rotate_left; (simp <;> omega)))) Ew4
          have B_r' : Bx w4 (w.heap.size + 1) [.slice none 0 0, .slice none 0 0, .slice none 0 0, .slice none 0 0] := Bx.ext (by repeat (first | with_reducible assumption | with_reducible exact Bx.new _ _ _ _ rfl | ((with_reducible refine Bx.new _ _ _ _ ?_); simp; done) | with_reducible refine Bx.pAlloc ?_ _ | with_reducible refine Bx.pDrew ?_ | with_reducible refine Bx.pDrewN ?_ _ | with_reducible apply Bx.set10 | with_reducible apply Bx.set20 | with_reducible apply Bx.set21 | with_reducible apply Bx.set30 | with_reducible apply Bx.set31 | with_reducible apply Bx.set32 | with_reducible apply Bx.set40 | with_reducible apply Bx.set41 | with_reducible apply Bx.set42 | with_reducible apply Bx.set43 | ((with_reducible refine Bx.set_other ?_ ?_ _); rotate_left; (simp <;> omega)))) Ew4
          have B_x1' : Bx w4 w3.heap.size [.slice a_x ((wrote d n S).1).1.length c_x, .slice b_x ((wrote d n S).1).2.length e_x] := Bx.ext (by repeat (first | with_reducible assumption | with_reducible exact Bx.new _ _ _ _ rfl | ((with_reducible refine Bx.new _ _ _ _ ?_); simp; done) | with_reducible refine Bx.pAlloc ?_ _ | with_reducible refine Bx.pDrew ?_ | with_reducible refine Bx.pDrewN ?_ _ | with_reducible apply Bx.set10 | with_reducible apply Bx.set20 | with_reducible apply Bx.set21 | with_reducible apply Bx.set30 | with_reducible apply Bx.set31 | with_reducible apply Bx.set32 | with_reducible apply Bx.set40 | with_reducible apply Bx.set41 | with_reducible apply Bx.set42 | with_reducible apply Bx.set43 | ((with_reducible refine Bx.set_other ?_ ?_ _); rotate_left; (simp <;> omega)))) Ew4
          have O_s' : (rowC).own (w1.heap.size) (w2.heap.size) w4 [.slice sa S.length sc] (S) := Cd.own.ext (by repeat (first | with_reducible assumption | with_reducible refine Cd.own.pAlloc ?_ _ | with_reducible refine Cd.own.pDrew ?_ | with_reducible refine Cd.own.pDrewN ?_ _ | ((with_reducible refine Cd.own.pSet ?_ ?_ _); rotate_left; (simp <;> omega)))) Ew4
          have O_x' : (diskC).own (w2.heap.size) (w3.heap.size) w4 [.slice a_x ((wrote d n S).1).1.length c_x, .slice b_x ((wrote d n S).1).2.length e_x] ((wrote d n S).1) := Cd.own.ext (by repeat (first | with_reducible assumption | with_reducible refine Cd.own.pAlloc ?_ _ | with_reducible refine Cd.own.pDrew ?_ | with_reducible refine Cd.own.pDrewN ?_ _ | ((with_reducible refine Cd.own.pSet ?_ ?_ _); rotate_left; (simp <;> omega)))) Ew4
          clear c_t_0 c_t_1 c_t_2 c_t_3 n_t c_r_0 c_r_1 c_r_2 c_r_3 n_r f_r
          clear B_t
          have B_t := B_t'; clear B_t'
          clear B_r
          have B_r := B_r'; clear B_r'
          have B_x1 := B_x1'; clear B_x1'
          clear O_s; have O_s := O_s'; clear O_s'
          clear O_x; have O_x := O_x'; clear O_x'
          replace O_y := O_y.wide (lo' := w3.heap.size + 1) (hi' := w4.heap.size) (by first | omega | (simp <;> omega)) (Nat.le_refl _)
          clear Ew4 Xw3
          have c_t_0 := B_t.cell 0 _ rfl
          have c_t_1 := B_t.cell 1 _ rfl
          have c_t_2 := B_t.cell 2 _ rfl
          have c_t_3 := B_t.cell 3 _ rfl
          have n_t := B_t.lt
          have c_r_0 := B_r.cell 0 _ rfl
          have c_r_1 := B_r.cell 1 _ rfl
          have c_r_2 := B_r.cell 2 _ rfl
          have c_r_3 := B_r.cell 3 _ rfl
          have n_r := B_r.lt
          have f_r := B_r.fr
          have c_x1_0 := B_x1.cell 0 _ rfl
          have c_x1_1 := B_x1.cell 1 _ rfl
          have n_x1 := B_x1.lt
          go_wp2_with fail
          refine (l4Copy_c _ (d, d') _ (twoC.vext HT.out (by repeat (first | with_reducible exact Ext.refl _ | with_reducible assumption | with_reducible refine Ext.pAlloc ?_ _ | ((with_reducible refine Ext.pSet ?_ ?_ _); rotate_left; (simp <;> omega)) | with_reducible refine Ext.pDrew ?_ | with_reducible refine Ext.pDrewN ?_ _))) Ok.out).mono ?_
          rintro e w5 ⟨u_o, v_o, x_o, y_o, rfl, Ew5, O_o⟩
          obtain ⟨⟨⟨a_o, c_o, rfl⟩, b_o, e_o, rfl⟩, ⟨p_o, r_o, rfl⟩, q_o, s_o, rfl⟩ := two_forms O_o.view
          have Xw5 : Ext w w5 := Ext.trans (by repeat (first | with_reducible exact Ext.refl _ | with_reducible assumption | with_reducible refine Ext.pAlloc ?_ _ | ((with_reducible refine Ext.pSet ?_ ?_ _); rotate_left; (simp <;> omega)) | with_reducible refine Ext.pDrew ?_ | with_reducible refine Ext.pDrewN ?_ _)) Ew5
          have zw5 : w4.heap.size + 1 ≤ w5.heap.size := by have := Ew5.size; (try simp at this); omega
          have B_t' : Bx w5 w.heap.size [.slice ua d.1.length uc, .slice va d.2.length vc, .slice ua' d'.1.length uc', .slice va' d'.2.length vc'] := Bx.ext (by repeat (first | with_reducible assumption | with_reducible exact Bx.new _ _ _ _ rfl | ((with_reducible refine Bx.new _ _ _ _ ?_); simp; done) | with_reducible refine Bx.pAlloc ?_ _ | with_reducible refine Bx.pDrew ?_ | with_reducible refine Bx.pDrewN ?_ _ | with_reducible apply Bx.set10 | with_reducible apply Bx.set20 | with_reducible apply Bx.set21 | with_reducible apply Bx.set30 | with_reducible apply Bx.set31 | with_reducible apply Bx.set32 | with_reducible apply Bx.set40 | with_reducible apply Bx.set41 | with_reducible apply Bx.set42 | with_reducible apply Bx.set43 | ((with_reducible refine Bx.set_other ?_ ?_ _); rotate_left; (simp <;> omega)))) Ew5
          have B_r' : Bx w5 (w.heap.size + 1) [.slice none 0 0, .slice none 0 0, .slice none 0 0, .slice none 0 0] := Bx.ext (by repeat (first | with_reducible assumption | with_reducible exact Bx.new _ _ _ _ rfl | ((with_reducible refine Bx.new _ _ _ _ ?_); simp; done) | with_reducible refine Bx.pAlloc ?_ _ | with_reducible refine Bx.pDrew ?_ | with_reducible refine Bx.pDrewN ?_ _ | with_reducible apply Bx.set10 | with_reducible apply Bx.set20 | with_reducible apply Bx.set21 | with_reducible apply Bx.set30 | with_reducible apply Bx.set31 | with_reducible apply Bx.set32 | with_reducible apply Bx.set40 | with_reducible apply Bx.set41 | with_reducible apply Bx.set42 | with_reducible apply Bx.set43 | ((with_reducible refine Bx.set_other ?_ ?_ _); rotate_left; (simp <;> omega)))) Ew5
          have B_x1' : Bx w5 w3.heap.size [.slice a_x ((wrote d n S).1).1.length c_x, .slice b_x ((wrote d n S).1).2.length e_x] := Bx.ext (by repeat (first | with_reducible assumption | with_reducible exact Bx.new _ _ _ _ rfl | ((with_reducible refine Bx.new _ _ _ _ ?_); simp; done) | with_reducible refine Bx.pAlloc ?_ _ | with_reducible refine Bx.pDrew ?_ | with_reducible refine Bx.pDrewN ?_ _ | with_reducible apply Bx.set10 | with_reducible apply Bx.set20 | with_reducible apply Bx.set21 | with_reducible apply Bx.set30 | with_reducible apply Bx.set31 | with_reducible apply Bx.set32 | with_reducible apply Bx.set40 | with_reducible apply Bx.set41 | with_reducible apply Bx.set42 | with_reducible apply Bx.set43 | ((with_reducible refine Bx.set_other ?_ ?_ _); rotate_left; (simp <;> omega)))) Ew5
          have B_y1' : Bx w5 w4.heap.size [.slice a_y ((wrote d' n S).1).1.length c_y, .slice b_y ((wrote d' n S).1).2.length e_y] := Bx.ext (by repeat (first | with_reducible assumption | with_reducible exact Bx.new _ _ _ _ rfl | ((with_reducible refine Bx.new _ _ _ _ ?_); simp; done) | with_reducible refine Bx.pAlloc ?_ _ | with_reducible refine Bx.pDrew ?_ | with_reducible refine Bx.pDrewN ?_ _ | with_reducible apply Bx.set10 | with_reducible apply Bx.set20 | with_reducible apply Bx.set21 | with_reducible apply Bx.set30 | with_reducible apply Bx.set31 | with_reducible apply Bx.set32 | with_reducible apply Bx.set40 | with_reducible apply Bx.set41 | with_reducible apply Bx.set42 | with_reducible apply Bx.set43 | ((with_reducible refine Bx.set_other ?_ ?_ _); rotate_left; (simp <;> omega)))) Ew5
          have O_s' : (rowC).own (w1.heap.size) (w2.heap.size) w5 [.slice sa S.length sc] (S) := Cd.own.ext (by repeat (first | with_reducible assumption | with_reducible refine Cd.own.pAlloc ?_ _ | with_reducible refine Cd.own.pDrew ?_ | with_reducible refine Cd.own.pDrewN ?_ _ | ((with_reducible refine Cd.own.pSet ?_ ?_ _); rotate_left; (simp <;> omega)))) Ew5
          have O_x' : (diskC).own (w2.heap.size) (w3.heap.size) w5 [.slice a_x ((wrote d n S).1).1.length c_x, .slice b_x ((wrote d n S).1).2.length e_x] ((wrote d n S).1) := Cd.own.ext (by repeat (first | with_reducible assumption | with_reducible refine Cd.own.pAlloc ?_ _ | with_reducible refine Cd.own.pDrew ?_ | with_reducible refine Cd.own.pDrewN ?_ _ | ((with_reducible refine Cd.own.pSet ?_ ?_ _); rotate_left; (simp <;> omega)))) Ew5
          have O_y' : (diskC).own (w3.heap.size + 1) (w4.heap.size) w5 [.slice a_y ((wrote d' n S).1).1.length c_y, .slice b_y ((wrote d' n S).1).2.length e_y] ((wrote d' n S).1) := Cd.own.ext (by repeat (first | with_reducible assumption | with_reducible refine Cd.own.pAlloc ?_ _ | with_reducible refine Cd.own.pDrew ?_ | with_reducible refine Cd.own.pDrewN ?_ _ | ((with_reducible refine Cd.own.pSet ?_ ?_ _); rotate_left; (simp <;> omega)))) Ew5
          clear c_t_0 c_t_1 c_t_2 c_t_3 n_t c_r_0 c_r_1 c_r_2 c_r_3 n_r f_r c_x1_0 c_x1_1 n_x1
          clear B_t
          have B_t := B_t'; clear B_t'
          clear B_r
          have B_r := B_r'; clear B_r'
          clear B_x1
          have B_x1 := B_x1'; clear B_x1'
          have B_y1 := B_y1'; clear B_y1'
          clear O_s; have O_s := O_s'; clear O_s'
          clear O_x; have O_x := O_x'; clear O_x'
          clear O_y; have O_y := O_y'; clear O_y'
          replace O_o := O_o.wide (lo' := w4.heap.size + 1) (hi' := w5.heap.size) (by first | omega | (simp <;> omega)) (Nat.le_refl _)
          clear Ew5 Xw4
          have c_t_0 := B_t.cell 0 _ rfl
          have c_t_1 := B_t.cell 1 _ rfl
          have c_t_2 := B_t.cell 2 _ rfl
          have c_t_3 := B_t.cell 3 _ rfl
          have n_t := B_t.lt
          have c_r_0 := B_r.cell 0 _ rfl
          have c_r_1 := B_r.cell 1 _ rfl
          have c_r_2 := B_r.cell 2 _ rfl
          have c_r_3 := B_r.cell 3 _ rfl
          have n_r := B_r.lt
          have f_r := B_r.fr
          have c_x1_0 := B_x1.cell 0 _ rfl
          have c_x1_1 := B_x1.cell 1 _ rfl
          have n_x1 := B_x1.lt
          have c_y1_0 := B_y1.cell 0 _ rfl
          have c_y1_1 := B_y1.cell 1 _ rfl
          have n_y1 := B_y1.lt
          go_wp2
          refine bodyPost_ret (v := .tuple #[.agg #[.slice a_o ((d, d')).1.1.length c_o, .slice b_o ((d, d')).1.2.length e_o, .slice p_o ((d, d')).2.1.length r_o, .slice q_o ((d, d')).2.2.length s_o], .bool false]) (by simp [results, Try.results25, go_sem, c_r_0, c_r_1, c_r_2, c_r_3, n_r]) rfl ⟨_, _, _, _, rfl, ?_, ?_⟩
          · repeat (first | with_reducible exact Ext.refl _ | with_reducible assumption | with_reducible refine Ext.pAlloc ?_ _ | ((with_reducible refine Ext.pSet ?_ ?_ _); rotate_left; (simp <;> omega)) | with_reducible refine Ext.pDrew ?_ | with_reducible refine Ext.pDrewN ?_ _)
          · refine Cd.own.wide (lo := w4.heap.size + 1) (hi := w5.heap.size) ?_ (by omega) (by first | (simp [World.setCell]; done) | (simp [World.setCell]; omega))
            repeat (first | with_reducible assumption | with_reducible refine Cd.own.pAlloc ?_ _ | with_reducible refine Cd.own.pDrew ?_ | with_reducible refine Cd.own.pDrewN ?_ _ | ((with_reducible refine Cd.own.pSet ?_ ?_ _); rotate_left; (simp <;> omega)))
        · rw [if_pos ⟨by simpa using Hn.out, by first | rfl | exact hw1, by first | rfl | exact hw2⟩]
          have Ht := Lib.hid ht; clear ht
          have Hw1 := Lib.hid hw1; clear hw1
          have Hw2 := Lib.hid hw2; clear hw2
          go_enter Try.func25, Try.ntmps25
          go_wp2_with fail
          refine (specTwoOk_c _ (d, d') _ (twoC.vext HT.out (by repeat (first | with_reducible exact Ext.refl _ | with_reducible assumption | with_reducible refine Ext.pAlloc ?_ _ | ((with_reducible refine Ext.pSet ?_ ?_ _); rotate_left; (simp <;> omega)) | with_reducible refine Ext.pDrew ?_ | with_reducible refine Ext.pDrewN ?_ _)))).mono ?_
          rw [Ht.out]
          rintro e w1 ⟨rfl, Ew1⟩
          have Xw1 : Ext w w1 := Ext.trans (by repeat (first | with_reducible exact Ext.refl _ | with_reducible assumption | with_reducible refine Ext.pAlloc ?_ _ | ((with_reducible refine Ext.pSet ?_ ?_ _); rotate_left; (simp <;> omega)) | with_reducible refine Ext.pDrew ?_ | with_reducible refine Ext.pDrewN ?_ _)) Ew1
          have zw1 : w.heap.size + 1 + 1 ≤ w1.heap.size := by have := Ew1.size; (try simp at this); omega
          have B_t' : Bx w1 w.heap.size [.slice ua d.1.length uc, .slice va d.2.length vc, .slice ua' d'.1.length uc', .slice va' d'.2.length vc'] := Bx.ext (by repeat (first | with_reducible assumption | with_reducible exact Bx.new _ _ _ _ rfl | ((with_reducible refine Bx.new _ _ _ _ ?_); simp; done) | with_reducible refine Bx.pAlloc ?_ _ | with_reducible refine Bx.pDrew ?_ | with_reducible refine Bx.pDrewN ?_ _ | with_reducible apply Bx.set10 | with_reducible apply Bx.set20 | with_reducible apply Bx.set21 | with_reducible apply Bx.set30 | with_reducible apply Bx.set31 | with_reducible apply Bx.set32 | with_reducible apply Bx.set40 | with_reducible apply Bx.set41 | with_reducible apply Bx.set42 | with_reducible apply Bx.set43 | ((with_reducible refine Bx.set_other ?_ ?_ _); rotate_left; (simp <;> omega)))) Ew1
          have B_r' : Bx w1 (w.heap.size + 1) [.slice none 0 0, .slice none 0 0, .slice none 0 0, .slice none 0 0] := Bx.ext (by repeat (first | with_reducible assumption | with_reducible exact Bx.new _ _ _ _ rfl | ((with_reducible refine Bx.new _ _ _ _ ?_); simp; done) | with_reducible refine Bx.pAlloc ?_ _ | with_reducible refine Bx.pDrew ?_ | with_reducible refine Bx.pDrewN ?_ _ | with_reducible apply Bx.set10 | with_reducible apply Bx.set20 | with_reducible apply Bx.set21 | with_reducible apply Bx.set30 | with_reducible apply Bx.set31 | with_reducible apply Bx.set32 | with_reducible apply Bx.set40 | with_reducible apply Bx.set41 | with_reducible apply Bx.set42 | with_reducible apply Bx.set43 | ((with_reducible refine Bx.set_other ?_ ?_ _); rotate_left; (simp <;> omega)))) Ew1
          have B_t := B_t'; clear B_t'
          have B_r := B_r'; clear B_r'
          clear Ew1
          have c_t_0 := B_t.cell 0 _ rfl
          have c_t_1 := B_t.cell 1 _ rfl
          have c_t_2 := B_t.cell 2 _ rfl
          have c_t_3 := B_t.cell 3 _ rfl
          have n_t := B_t.lt
          have c_r_0 := B_r.cell 0 _ rfl
          have c_r_1 := B_r.cell 1 _ rfl
          have c_r_2 := B_r.cell 2 _ rfl
          have c_r_3 := B_r.cell 3 _ rfl
          have n_r := B_r.lt
          have f_r := B_r.fr
          go_wp2_with fail
          refine (specWithSum_c _ row _ (rowC.vext HR.out (by repeat (first | with_reducible exact Ext.refl _ | with_reducible assumption | with_reducible refine Ext.pAlloc ?_ _ | ((with_reducible refine Ext.pSet ?_ ?_ _); rotate_left; (simp <;> omega)) | with_reducible refine Ext.pDrew ?_ | with_reducible refine Ext.pDrewN ?_ _)))).mono ?_
          rw [HS.out]
          rintro e w2 ⟨sv, rfl, Ew2, O_s⟩
          obtain ⟨sa, sc, rfl⟩ := u_slice O_s.view
          have Xw2 : Ext w w2 := Ext.trans (by repeat (first | with_reducible exact Ext.refl _ | with_reducible assumption | with_reducible refine Ext.pAlloc ?_ _ | ((with_reducible refine Ext.pSet ?_ ?_ _); rotate_left; (simp <;> omega)) | with_reducible refine Ext.pDrew ?_ | with_reducible refine Ext.pDrewN ?_ _)) Ew2
          have zw2 : w1.heap.size ≤ w2.heap.size := by have := Ew2.size; (try simp at this); omega
          have B_t' : Bx w2 w.heap.size [.slice ua d.1.length uc, .slice va d.2.length vc, .slice ua' d'.1.length uc', .slice va' d'.2.length vc'] := Bx.ext (by repeat (first | with_reducible assumption | with_reducible exact Bx.new _ _ _ _ rfl | ((with_reducible refine Bx.new _ _ _ _ ?_); simp; done) | with_reducible refine Bx.pAlloc ?_ _ | with_reducible refine Bx.pDrew ?_ | with_reducible refine Bx.pDrewN ?_ _ | with_reducible apply Bx.set10 | with_reducible apply Bx.set20 | with_reducible apply Bx.set21 | with_reducible apply Bx.set30 | with_reducible apply Bx.set31 | with_reducible apply Bx.set32 | with_reducible apply Bx.set40 | with_reducible apply Bx.set41 | with_reducible apply Bx.set42 | with_reducible apply Bx.set43 | ((with_reducible refine Bx.set_other ?_ ?_ _); rotate_left; (simp <;> omega)))) Ew2
          have B_r' : Bx w2 (w.heap.size + 1) [.slice none 0 0, .slice none 0 0, .slice none 0 0, .slice none 0 0] := Bx.ext (by repeat (first | with_reducible assumption | with_reducible exact Bx.new _ _ _ _ rfl | ((with_reducible refine Bx.new _ _ _ _ ?_); simp; done) | with_reducible refine Bx.pAlloc ?_ _ | with_reducible refine Bx.pDrew ?_ | with_reducible refine Bx.pDrewN ?_ _ | with_reducible apply Bx.set10 | with_reducible apply Bx.set20 | with_reducible apply Bx.set21 | with_reducible apply Bx.set30 | with_reducible apply Bx.set31 | with_reducible apply Bx.set32 | with_reducible apply Bx.set40 | with_reducible apply Bx.set41 | with_reducible apply Bx.set42 | with_reducible apply Bx.set43 | ((with_reducible refine Bx.set_other ?_ ?_ _); rotate_left; (simp <;> omega)))) Ew2
          clear c_t_0 c_t_1 c_t_2 c_t_3 n_t c_r_0 c_r_1 c_r_2 c_r_3 n_r f_r
          clear B_t
          have B_t := B_t'; clear B_t'
          clear B_r
          have B_r := B_r'; clear B_r'
          replace O_s := O_s.wide (lo' := w1.heap.size) (hi' := w2.heap.size) (by first | omega | (simp <;> omega)) (Nat.le_refl _)
          clear Ew2 Xw1
          have c_t_0 := B_t.cell 0 _ rfl
          have c_t_1 := B_t.cell 1 _ rfl
          have c_t_2 := B_t.cell 2 _ rfl
          have c_t_3 := B_t.cell 3 _ rfl
          have n_t := B_t.lt
          have c_r_0 := B_r.cell 0 _ rfl
          have c_r_1 := B_r.cell 1 _ rfl
          have c_r_2 := B_r.cell 2 _ rfl
          have c_r_3 := B_r.cell 3 _ rfl
          have n_r := B_r.lt
          have f_r := B_r.fr
          go_wp2_with fail
          refine (specWrote_c _ d n _ S _ (diskC.vext H.out.1 (by repeat (first | with_reducible exact Ext.refl _ | with_reducible assumption | with_reducible refine Ext.pAlloc ?_ _ | ((with_reducible refine Ext.pSet ?_ ?_ _); rotate_left; (simp <;> omega)) | with_reducible refine Ext.pDrew ?_ | with_reducible refine Ext.pDrewN ?_ _))) (Cd.own.view (R := rowC) (lo := w1.heap.size) (hi := w2.heap.size) (by repeat (first | with_reducible assumption | with_reducible refine Cd.own.pAlloc ?_ _ | with_reducible refine Cd.own.pDrew ?_ | with_reducible refine Cd.own.pDrewN ?_ _ | ((with_reducible refine Cd.own.pSet ?_ ?_ _); rotate_left; (simp <;> omega)))))).mono ?_
          rw [Hw1.out]
          rintro e w3 ⟨u_x, v_x, rfl, Ew3, O_x⟩
          obtain ⟨⟨a_x, c_x, rfl⟩, b_x, e_x, rfl⟩ := disk_forms O_x.view
          have Xw3 : Ext w w3 := Ext.trans (by repeat (first | with_reducible exact Ext.refl _ | with_reducible assumption | with_reducible refine Ext.pAlloc ?_ _ | ((with_reducible refine Ext.pSet ?_ ?_ _); rotate_left; (simp <;> omega)) | with_reducible refine Ext.pDrew ?_ | with_reducible refine Ext.pDrewN ?_ _)) Ew3
          have zw3 : w2.heap.size ≤ w3.heap.size := by have := Ew3.size; (try simp at this); omega
          have B_t' : Bx w3 w.heap.size [.slice ua d.1.length uc, .slice va d.2.length vc, .slice ua' d'.1.length uc', .slice va' d'.2.length vc'] := Bx.ext (by repeat (first | with_reducible assumption | with_reducible exact Bx.new _ _ _ _ rfl | ((with_reducible refine Bx.new _ _ _ _ ?_); simp; done) | with_reducible refine Bx.pAlloc ?_ _ | with_reducible refine Bx.pDrew ?_ | with_reducible refine Bx.pDrewN ?_ _ | with_reducible apply Bx.set10 | with_reducible apply Bx.set20 | with_reducible apply Bx.set21 | with_reducible apply Bx.set30 | with_reducible apply Bx.set31 | with_reducible apply Bx.set32 | with_reducible apply Bx.set40 | with_reducible apply Bx.set41 | with_reducible apply Bx.set42 | with_reducible apply Bx.set43 | ((with_reducible refine Bx.set_other ?_ ?_ _); rotate_left; (simp <;> omega)))) Ew3
          have B_r' : Bx w3 (w.heap.size + 1) [.slice none 0 0, .slice none 0 0, .slice none 0 0, .slice none 0 0] := Bx.ext (by repeat (first | with_reducible assumption | with_reducible exact Bx.new _ _ _ _ rfl | ((with_reducible refine Bx.new _ _ _ _ ?_); simp; done) | with_reducible refine Bx.pAlloc ?_ _ | with_reducible refine Bx.pDrew ?_ | with_reducible refine Bx.pDrewN ?_ _ | with_reducible apply Bx.set10 | with_reducible apply Bx.set20 | with_reducible apply Bx.set21 | with_reducible apply Bx.set30 | with_reducible apply Bx.set31 | with_reducible apply Bx.set32 | with_reducible apply Bx.set40 | with_reducible apply Bx.set41 | with_reducible apply Bx.set42 | with_reducible apply Bx.set43 | ((with_reducible refine Bx.set_other ?_ ?_ _); rotate_left; (simp <;> omega)))) Ew3
          have O_s' : (rowC).own (w1.heap.size) (w2.heap.size) w3 [.slice sa S.length sc] (S) := Cd.own.ext (by repeat (first | with_reducible assumption | with_reducible refine Cd.own.pAlloc ?_ _ | with_reducible refine Cd.own.pDrew ?_ | with_reducible refine Cd.own.pDrewN ?_ _ | ((with_reducible refine Cd.own.pSet ?_ ?_ _); rotate_left; (simp <;> omega)))) Ew3
          clear c_t_0 c_t_1 c_t_2 c_t_3 n_t c_r_0 c_r_1 c_r_2 c_r_3 n_r f_r
          clear B_t
          have B_t := B_t'; clear B_t'
          clear B_r
          have B_r := B_r'; clear B_r'
          clear O_s; have O_s := O_s'; clear O_s'
          replace O_x := O_x.wide (lo' := w2.heap.size) (hi' := w3.heap.size) (by first | omega | (simp <;> omega)) (Nat.le_refl _)
          clear Ew3 Xw2
          have c_t_0 := B_t.cell 0 _ rfl
          have c_t_1 := B_t.cell 1 _ rfl
          have c_t_2 := B_t.cell 2 _ rfl
          have c_t_3 := B_t.cell 3 _ rfl
          have n_t := B_t.lt
          have c_r_0 := B_r.cell 0 _ rfl
          have c_r_1 := B_r.cell 1 _ rfl
          have c_r_2 := B_r.cell 2 _ rfl
          have c_r_3 := B_r.cell 3 _ rfl
          have n_r := B_r.lt
          have f_r := B_r.fr
          go_wp2_with fail
          refine (specWrote_c _ d' n _ S _ (diskC.vext H.out.2 (by repeat (first | with_reducible exact Ext.refl _ | with_reducible assumption | with_reducible refine Ext.pAlloc ?_ _ | ((with_reducible refine Ext.pSet ?_ ?_ _); rotate_left; (simp <;> omega)) | with_reducible refine Ext.pDrew ?_ | with_reducible refine Ext.pDrewN ?_ _))) (Cd.own.view (R := rowC) (lo := w1.heap.size) (hi := w2.heap.size) (by repeat (first | with_reducible assumption | with_reducible refine Cd.own.pAlloc ?_ _ | with_reducible refine Cd.own.pDrew ?_ | with_reducible refine Cd.own.pDrewN ?_ _ | ((with_reducible refine Cd.own.pSet ?_ ?_ _); rotate_left; (simp <;> omega)))))).mono ?_
          rw [Hw2.out]
          rintro e w4 ⟨u_y, v_y, rfl, Ew4, O_y⟩
          obtain ⟨⟨a_y, c_y, rfl⟩, b_y, e_y, rfl⟩ := disk_forms O_y.view
          have Xw4 : Ext w w4 := Ext.trans (by repeat (first | with_reducible exact Ext.refl _ | with_reducible assumption | with_reducible refine Ext.pAlloc ?_ _ | ((with_reducible refine Ext.pSet ?_ ?_ _); rotate_left; (simp <;> omega)) | with_reducible refine Ext.pDrew ?_ | with_reducible refine Ext.pDrewN ?_ _)) Ew4
          have zw4 : w3.heap.size + 1 ≤ w4.heap.size := by have := Ew4.size; (try simp at this); omega
          have B_t' : Bx w4 w.heap.size [.slice ua d.1.length uc, .slice va d.2.length vc, .slice ua' d'.1.length uc', .slice va' d'.2.length vc'] := Bx.ext (by repeat (first | with_reducible assumption | with_reducible exact Bx.new _ _ _ _ rfl | ((with_reducible refine Bx.new _ _ _ _ ?_); simp; done) | with_reducible refine Bx.pAlloc ?_ _ | with_reducible refine Bx.pDrew ?_ | with_reducible refine Bx.pDrewN ?_ _ | with_reducible apply Bx.set10 | with_reducible apply Bx.set20 | with_reducible apply Bx.set21 | with_reducible apply Bx.set30 | with_reducible apply Bx.set31 | with_reducible apply Bx.set32 | with_reducible apply Bx.set40 | with_reducible apply Bx.set41 | with_reducible apply Bx.set42 | with_reducible apply Bx.set43 | ((with_reducible refine Bx.set_other ?_ ?_ _); rotate_left; (simp <;> omega)))) Ew4
          have B_r' : Bx w4 (w.heap.size + 1) [.slice none 0 0, .slice none 0 0, .slice none 0 0, .slice none 0 0] := Bx.ext (by repeat (first | with_reducible assumption | with_reducible exact Bx.new _ _ _ _ rfl | ((with_reducible refine Bx.new _ _ _ _ ?_); simp; done) | with_reducible refine Bx.pAlloc ?_ _ | with_reducible refine Bx.pDrew ?_ | with_reducible refine Bx.pDrewN ?_ _ | with_reducible apply Bx.set10 | with_reducible apply Bx.set20 | with_reducible apply Bx.set21 | with_reducible apply Bx.set30 | with_reducible apply Bx.set31 | with_reducible apply Bx.set32 | with_reducible apply Bx.set40 | with_reducible apply Bx.set41 | with_reducible apply Bx.set42 | with_reducible apply Bx.set43 | ((with_reducible refine Bx.set_other ?_ ?_ _); rotate_left; (simp <;> omega)))) Ew4
          have B_x1' : Bx w4 w3.heap.size [.slice a_x ((wrote d n S).1).1.length c_x, .slice b_x ((wrote d n S).1).2.length e_x] := Bx.ext (by repeat (first | with_reducible assumption | with_reducible exact Bx.new _ _ _ _ rfl | ((with_reducible refine Bx.new _ _ _ _ ?_); simp; done) | with_reducible refine Bx.pAlloc ?_ _ | with_reducible refine Bx.pDrew ?_ | with_reducible refine Bx.pDrewN ?_ _ | with_reducible apply Bx.set10 | with_reducible apply Bx.set20 | with_reducible apply Bx.set21 | with_reducible apply Bx.set30 | with_reducible apply Bx.set31 | with_reducible apply Bx.set32 | with_reducible apply Bx.set40 | with_reducible apply Bx.set41 | with_reducible apply Bx.set42 | with_reducible apply Bx.set43 | ((with_reducible refine Bx.set_other ?_ ?_ _); rotate_left; (simp <;> omega)))) Ew4
          have O_s' : (rowC).own (w1.heap.size) (w2.heap.size) w4 [.slice sa S.length sc] (S) := Cd.own.ext (by repeat (first | with_reducible assumption | with_reducible refine Cd.own.pAlloc ?_ _ | with_reducible refine Cd.own.pDrew ?_ | with_reducible refine Cd.own.pDrewN ?_ _ | ((with_reducible refine Cd.own.pSet ?_ ?_ _); rotate_left; (simp <;> omega)))) Ew4
          have O_x' : (diskC).own (w2.heap.size) (w3.heap.size) w4 [.slice a_x ((wrote d n S).1).1.length c_x, .slice b_x ((wrote d n S).1).2.length e_x] ((wrote d n S).1) := Cd.own.ext (by repeat (first | with_reducible assumption | with_reducible refine Cd.own.pAlloc ?_ _ | with_reducible refine Cd.own.pDrew ?_ | with_reducible refine Cd.own.pDrewN ?_ _ | ((with_reducible refine Cd.own.pSet ?_ ?_ _); rotate_left; (simp <;> omega)))) Ew4
          clear c_t_0 c_t_1 c_t_2 c_t_3 n_t c_r_0 c_r_1 c_r_2 c_r_3 n_r f_r
          clear B_t
          have B_t := B_t'; clear B_t'
          clear B_r
          have B_r := B_r'; clear B_r'
          have B_x1 := B_x1'; clear B_x1'
          clear O_s; have O_s := O_s'; clear O_s'
          clear O_x; have O_x := O_x'; clear O_x'
          replace O_y := O_y.wide (lo' := w3.heap.size + 1) (hi' := w4.heap.size) (by first | omega | (simp <;> omega)) (Nat.le_refl _)
          clear Ew4 Xw3
          have c_t_0 := B_t.cell 0 _ rfl
          have c_t_1 := B_t.cell 1 _ rfl
          have c_t_2 := B_t.cell 2 _ rfl
          have c_t_3 := B_t.cell 3 _ rfl
          have n_t := B_t.lt
          have c_r_0 := B_r.cell 0 _ rfl
          have c_r_1 := B_r.cell 1 _ rfl
          have c_r_2 := B_r.cell 2 _ rfl
          have c_r_3 := B_r.cell 3 _ rfl
          have n_r := B_r.lt
          have f_r := B_r.fr
          have c_x1_0 := B_x1.cell 0 _ rfl
          have c_x1_1 := B_x1.cell 1 _ rfl
          have n_x1 := B_x1.lt
          clear c_t_0 c_t_1 c_t_2 c_t_3 n_t c_r_0 c_r_1 c_r_2 c_r_3 n_r f_r c_x1_0 c_x1_1 n_x1
          have c_t_0 := B_t.cell 0 _ rfl
          have c_t_1 := B_t.cell 1 _ rfl
          have c_t_2 := B_t.cell 2 _ rfl
          have c_t_3 := B_t.cell 3 _ rfl
          have n_t := B_t.lt
          have c_r_0 := B_r.cell 0 _ rfl
          have c_r_1 := B_r.cell 1 _ rfl
          have c_r_2 := B_r.cell 2 _ rfl
          have c_r_3 := B_r.cell 3 _ rfl
          have n_r := B_r.lt
          have f_r := B_r.fr
          have c_x1_0 := B_x1.cell 0 _ rfl
          have c_x1_1 := B_x1.cell 1 _ rfl
          have n_x1 := B_x1.lt
          go_wp2
          refine bodyPost_ret (v := .tuple #[.agg #[.slice a_x ((wrote d n S).1).1.length c_x, .slice b_x ((wrote d n S).1).2.length e_x, .slice a_y ((wrote d' n S).1).1.length c_y, .slice b_y ((wrote d' n S).1).2.length e_y], .bool true]) (by simp [results, Try.results25, go_sem, c_r_0, c_r_1, c_r_2, c_r_3, n_r]) rfl ⟨_, _, _, _, rfl, ?_, ?_⟩
          · repeat (first | with_reducible exact Ext.refl _ | with_reducible assumption | with_reducible refine Ext.pAlloc ?_ _ | ((with_reducible refine Ext.pSet ?_ ?_ _); rotate_left; (simp <;> omega)) | with_reducible refine Ext.pDrew ?_ | with_reducible refine Ext.pDrewN ?_ _)
          · exact Cd.own.wide (prod_own (c := [_, _]) (d := [_, _]) (mid := w3.heap.size) (lo := w2.heap.size) (hi := w4.heap.size) (by repeat (first | with_reducible assumption | with_reducible refine Cd.own.pAlloc ?_ _ | with_reducible refine Cd.own.pDrew ?_ | with_reducible refine Cd.own.pDrewN ?_ _ | ((with_reducible refine Cd.own.pSet ?_ ?_ _); rotate_left; (simp <;> omega)))) (Cd.own.wide (lo := w3.heap.size + 1) (hi := w4.heap.size) (by repeat (first | with_reducible assumption | with_reducible refine Cd.own.pAlloc ?_ _ | with_reducible refine Cd.own.pDrew ?_ | with_reducible refine Cd.own.pDrewN ?_ _ | ((with_reducible refine Cd.own.pSet ?_ ?_ _); rotate_left; (simp <;> omega)))) (by omega) (Nat.le_refl _)) (by omega) (by omega)) (by omega) (by first | (simp [World.setCell]; done) | (simp [World.setCell]; omega))

end Go.Proofs.Ytbapomhoipdanaa
