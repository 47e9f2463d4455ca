/- Two disks: are they equal? -/
import Derived.Test.YtbapomhoipdanaaTwP
set_option linter.unusedVariables false
set_option linter.unusedSimpArgs false
namespace Go.Proofs.Ytbapomhoipdanaa
open Go.RowKit Go.Sl

set_option maxHeartbeats 8000000 in
set_option maxRecDepth 20000 in
theorem implEqualIn_c (cs : List Value) (m : TwoD) (w : World) (h : twoC.V w cs m) :
    Calls Try.prog 14 #[.agg cs.toArray] w fun e w' => e = .returned (.bool (equalIn m)) ∧ Ext w w' := by
  obtain ⟨u, v, u', v', rfl, hu, hv⟩ := two_V.1 h
  have HT := Lib.hid h
  obtain ⟨⟨rs, ws⟩, rs', ws'⟩ := m
  simp only at hu hv
  have H := Lib.hid (And.intro hu hv)
  obtain ⟨u1, v1, e, hu1, hv1⟩ := disk_V.1 hu
  cases e
  obtain ⟨u2, v2, e, hu2, hv2⟩ := disk_V.1 hv
  cases e
  simp only at hu1 hv1 hu2 hv2
  obtain ⟨ua, uc, rfl, h1, h2, hc⟩ := slice_open1 (R := rowC) rfl hu1
  obtain ⟨ua', uc', rfl, h1', h2', hc'⟩ := slice_open1 (R := rowC) rfl hu2
  obtain ⟨va, vc, rfl⟩ := sl_form hv1
  obtain ⟨va', vc', rfl⟩ := sl_form hv2
  clear hu hv h hu1 hv1 hu2 hv2
  cases ht : twoOk ((rs, ws), (rs', ws'))
  · have Ht := Lib.hid ht; clear ht hc hc'
    go_enter Try.func14, Try.ntmps14
    go_wp2_with fail
    refine (implTwoOk_c _ ((rs, ws), (rs', ws')) _ (twoC.vext HT.out (by repeat (first | with_reducible exact Ext.refl _ | with_reducible assumption | with_reducible refine Ext.pAlloc ?_ _ | ((with_reducible refine Ext.pSet ?_ ?_ _); rotate_left; (simp <;> omega)) | with_reducible refine Ext.pDrew ?_ | with_reducible refine Ext.pDrewN ?_ _)))).mono ?_
    rw [Ht.out]
    rintro e w1 ⟨rfl, Ew1⟩
    have Xw1 : Ext w w1 := Ext.trans (by repeat (first | with_reducible exact Ext.refl _ | with_reducible assumption | with_reducible refine Ext.pAlloc ?_ _ | ((with_reducible refine Ext.pSet ?_ ?_ _); rotate_left; (simp <;> omega)) | with_reducible refine Ext.pDrew ?_ | with_reducible refine Ext.pDrewN ?_ _)) Ew1
    have zw1 : w.heap.size + 1 ≤ w1.heap.size := by have := Ew1.size; (try simp at this); omega
    have B_t' : Bx w1 w.heap.size [.slice ua rs.length uc, .slice va ws.length vc, .slice ua' rs'.length uc', .slice va' ws'.length vc'] := Bx.ext (by repeat (first | with_reducible assumption | with_reducible exact Bx.new _ _ _ _ rfl | ((with_reducible refine Bx.new _ _ _ _ ?_); simp; done) | with_reducible refine Bx.pAlloc ?_ _ | with_reducible refine Bx.pDrew ?_ | with_reducible refine Bx.pDrewN ?_ _ | with_reducible apply Bx.set10 | with_reducible apply Bx.set20 | with_reducible apply Bx.set21 | with_reducible apply Bx.set30 | with_reducible apply Bx.set31 | with_reducible apply Bx.set32 | with_reducible apply Bx.set40 | with_reducible apply Bx.set41 | with_reducible apply Bx.set42 | with_reducible apply Bx.set43 | ((with_reducible refine Bx.set_other ?_ ?_ _); rotate_left; (simp <;> omega)))) Ew1
    have B_t := B_t'; clear B_t'
    clear Ew1
    have c_t_0 := B_t.cell 0 _ rfl
    have c_t_1 := B_t.cell 1 _ rfl
    have c_t_2 := B_t.cell 2 _ rfl
    have c_t_3 := B_t.cell 3 _ rfl
    have n_t := B_t.lt
    go_wp2
    go_ret
    exact ⟨retB (by simp [equalIn, Ht.out]), by repeat (first | with_reducible exact Ext.refl _ | with_reducible assumption | with_reducible refine Ext.pAlloc ?_ _ | ((with_reducible refine Ext.pSet ?_ ?_ _); rotate_left; (simp <;> omega)) | with_reducible refine Ext.pDrew ?_ | with_reducible refine Ext.pDrewN ?_ _)⟩
  · obtain ⟨_, _, hlen⟩ := twoOk_parts ht
    simp only at hlen
    cases s1 : safeIn (rs, ws)
    · have H1 := Lib.hid s1; clear s1 hlen
      have Ht := Lib.hid ht; clear ht hc hc'
      go_enter Try.func14, Try.ntmps14
      go_wp2_with fail
      refine (implTwoOk_c _ ((rs, ws), (rs', ws')) _ (twoC.vext HT.out (by repeat (first | with_reducible exact Ext.refl _ | with_reducible assumption | with_reducible refine Ext.pAlloc ?_ _ | ((with_reducible refine Ext.pSet ?_ ?_ _); rotate_left; (simp <;> omega)) | with_reducible refine Ext.pDrew ?_ | with_reducible refine Ext.pDrewN ?_ _)))).mono ?_
      rw [Ht.out]
      rintro e w1 ⟨rfl, Ew1⟩
      have Xw1 : Ext w w1 := Ext.trans (by repeat (first | with_reducible exact Ext.refl _ | with_reducible assumption | with_reducible refine Ext.pAlloc ?_ _ | ((with_reducible refine Ext.pSet ?_ ?_ _); rotate_left; (simp <;> omega)) | with_reducible refine Ext.pDrew ?_ | with_reducible refine Ext.pDrewN ?_ _)) Ew1
      have zw1 : w.heap.size + 1 ≤ w1.heap.size := by have := Ew1.size; (try simp at this); omega
      have B_t' : Bx w1 w.heap.size [.slice ua rs.length uc, .slice va ws.length vc, .slice ua' rs'.length uc', .slice va' ws'.length vc'] := Bx.ext (by repeat (first | with_reducible assumption | with_reducible exact Bx.new _ _ _ _ rfl | ((with_reducible refine Bx.new _ _ _ _ ?_); simp; done) | with_reducible refine Bx.pAlloc ?_ _ | with_reducible refine Bx.pDrew ?_ | with_reducible refine Bx.pDrewN ?_ _ | with_reducible apply Bx.set10 | with_reducible apply Bx.set20 | with_reducible apply Bx.set21 | with_reducible apply Bx.set30 | with_reducible apply Bx.set31 | with_reducible apply Bx.set32 | with_reducible apply Bx.set40 | with_reducible apply Bx.set41 | with_reducible apply Bx.set42 | with_reducible apply Bx.set43 | ((with_reducible refine Bx.set_other ?_ ?_ _); rotate_left; (simp <;> omega)))) Ew1
      have B_t := B_t'; clear B_t'
      clear Ew1
      have c_t_0 := B_t.cell 0 _ rfl
      have c_t_1 := B_t.cell 1 _ rfl
      have c_t_2 := B_t.cell 2 _ rfl
      have c_t_3 := B_t.cell 3 _ rfl
      have n_t := B_t.lt
      go_wp2_with fail
      refine (implSafeIn_c _ (rs, ws) _ (diskC.vext H.out.1 (by repeat (first | with_reducible exact Ext.refl _ | with_reducible assumption | with_reducible refine Ext.pAlloc ?_ _ | ((with_reducible refine Ext.pSet ?_ ?_ _); rotate_left; (simp <;> omega)) | with_reducible refine Ext.pDrew ?_ | with_reducible refine Ext.pDrewN ?_ _)))).mono ?_
      rw [H1.out]
      rintro e w2 ⟨rfl, Ew2⟩
      have Xw2 : Ext w w2 := Ext.trans (by repeat (first | with_reducible exact Ext.refl _ | with_reducible assumption | with_reducible refine Ext.pAlloc ?_ _ | ((with_reducible refine Ext.pSet ?_ ?_ _); rotate_left; (simp <;> omega)) | with_reducible refine Ext.pDrew ?_ | with_reducible refine Ext.pDrewN ?_ _)) Ew2
      have zw2 : w1.heap.size ≤ w2.heap.size := by have := Ew2.size; (try simp at this); omega
      have B_t' : Bx w2 w.heap.size [.slice ua rs.length uc, .slice va ws.length vc, .slice ua' rs'.length uc', .slice va' ws'.length vc'] := Bx.ext (by repeat (first | with_reducible assumption | with_reducible exact Bx.new _ _ _ _ rfl | ((with_reducible refine Bx.new _ _ _ _ ?_); simp; done) | with_reducible refine Bx.pAlloc ?_ _ | with_reducible refine Bx.pDrew ?_ | with_reducible refine Bx.pDrewN ?_ _ | with_reducible apply Bx.set10 | with_reducible apply Bx.set20 | with_reducible apply Bx.set21 | with_reducible apply Bx.set30 | with_reducible apply Bx.set31 | with_reducible apply Bx.set32 | with_reducible apply Bx.set40 | with_reducible apply Bx.set41 | with_reducible apply Bx.set42 | with_reducible apply Bx.set43 | ((with_reducible refine Bx.set_other ?_ ?_ _); rotate_left; (simp <;> omega)))) Ew2
      clear c_t_0 c_t_1 c_t_2 c_t_3 n_t
      clear B_t
      have B_t := B_t'; clear B_t'
      clear Ew2 Xw1
      have c_t_0 := B_t.cell 0 _ rfl
      have c_t_1 := B_t.cell 1 _ rfl
      have c_t_2 := B_t.cell 2 _ rfl
      have c_t_3 := B_t.cell 3 _ rfl
      have n_t := B_t.lt
      go_wp2
      go_ret
      exact ⟨retB (by simp [equalIn, H1.out]), by repeat (first | with_reducible exact Ext.refl _ | with_reducible assumption | with_reducible refine Ext.pAlloc ?_ _ | ((with_reducible refine Ext.pSet ?_ ?_ _); rotate_left; (simp <;> omega)) | with_reducible refine Ext.pDrew ?_ | with_reducible refine Ext.pDrewN ?_ _)⟩
    · cases s2 : safeIn (rs', ws')
      · have H1 := Lib.hid s1; have H2 := Lib.hid s2; clear s1 s2 hlen
        have Ht := Lib.hid ht; clear ht hc hc'
        go_enter Try.func14, Try.ntmps14
        go_wp2_with fail
        refine (implTwoOk_c _ ((rs, ws), (rs', ws')) _ (twoC.vext HT.out (by repeat (first | with_reducible exact Ext.refl _ | with_reducible assumption | with_reducible refine Ext.pAlloc ?_ _ | ((with_reducible refine Ext.pSet ?_ ?_ _); rotate_left; (simp <;> omega)) | with_reducible refine Ext.pDrew ?_ | with_reducible refine Ext.pDrewN ?_ _)))).mono ?_
        rw [Ht.out]
        rintro e w1 ⟨rfl, Ew1⟩
        have Xw1 : Ext w w1 := Ext.trans (by repeat (first | with_reducible exact Ext.refl _ | with_reducible assumption | with_reducible refine Ext.pAlloc ?_ _ | ((with_reducible refine Ext.pSet ?_ ?_ _); rotate_left; (simp <;> omega)) | with_reducible refine Ext.pDrew ?_ | with_reducible refine Ext.pDrewN ?_ _)) Ew1
        have zw1 : w.heap.size + 1 ≤ w1.heap.size := by have := Ew1.size; (try simp at this); omega
        have B_t' : Bx w1 w.heap.size [.slice ua rs.length uc, .slice va ws.length vc, .slice ua' rs'.length uc', .slice va' ws'.length vc'] := Bx.ext (by repeat (first | with_reducible assumption | with_reducible exact Bx.new _ _ _ _ rfl | ((with_reducible refine Bx.new _ _ _ _ ?_); simp; done) | with_reducible refine Bx.pAlloc ?_ _ | with_reducible refine Bx.pDrew ?_ | with_reducible refine Bx.pDrewN ?_ _ | with_reducible apply Bx.set10 | with_reducible apply Bx.set20 | with_reducible apply Bx.set21 | with_reducible apply Bx.set30 | with_reducible apply Bx.set31 | with_reducible apply Bx.set32 | with_reducible apply Bx.set40 | with_reducible apply Bx.set41 | with_reducible apply Bx.set42 | with_reducible apply Bx.set43 | ((with_reducible refine Bx.set_other ?_ ?_ _); rotate_left; (simp <;> omega)))) Ew1
        have B_t := B_t'; clear B_t'
        clear Ew1
        have c_t_0 := B_t.cell 0 _ rfl
        have c_t_1 := B_t.cell 1 _ rfl
        have c_t_2 := B_t.cell 2 _ rfl
        have c_t_3 := B_t.cell 3 _ rfl
        have n_t := B_t.lt
        go_wp2_with fail
        refine (implSafeIn_c _ (rs, ws) _ (diskC.vext H.out.1 (by repeat (first | with_reducible exact Ext.refl _ | with_reducible assumption | with_reducible refine Ext.pAlloc ?_ _ | ((with_reducible refine Ext.pSet ?_ ?_ _); rotate_left; (simp <;> omega)) | with_reducible refine Ext.pDrew ?_ | with_reducible refine Ext.pDrewN ?_ _)))).mono ?_
        rw [H1.out]
        rintro e w2 ⟨rfl, Ew2⟩
        have Xw2 : Ext w w2 := Ext.trans (by repeat (first | with_reducible exact Ext.refl _ | with_reducible assumption | with_reducible refine Ext.pAlloc ?_ _ | ((with_reducible refine Ext.pSet ?_ ?_ _); rotate_left; (simp <;> omega)) | with_reducible refine Ext.pDrew ?_ | with_reducible refine Ext.pDrewN ?_ _)) Ew2
        have zw2 : w1.heap.size ≤ w2.heap.size := by have := Ew2.size; (try simp at this); omega
        have B_t' : Bx w2 w.heap.size [.slice ua rs.length uc, .slice va ws.length vc, .slice ua' rs'.length uc', .slice va' ws'.length vc'] := Bx.ext (by repeat (first | with_reducible assumption | with_reducible exact Bx.new _ _ _ _ rfl | ((with_reducible refine Bx.new _ _ _ _ ?_); simp; done) | with_reducible refine Bx.pAlloc ?_ _ | with_reducible refine Bx.pDrew ?_ | with_reducible refine Bx.pDrewN ?_ _ | with_reducible apply Bx.set10 | with_reducible apply Bx.set20 | with_reducible apply Bx.set21 | with_reducible apply Bx.set30 | with_reducible apply Bx.set31 | with_reducible apply Bx.set32 | with_reducible apply Bx.set40 | with_reducible apply Bx.set41 | with_reducible apply Bx.set42 | with_reducible apply Bx.set43 | ((with_reducible refine Bx.set_other ?_ ?_ _); rotate_left; (simp <;> omega)))) Ew2
        clear c_t_0 c_t_1 c_t_2 c_t_3 n_t
        clear B_t
        have B_t := B_t'; clear B_t'
        clear Ew2 Xw1
        have c_t_0 := B_t.cell 0 _ rfl
        have c_t_1 := B_t.cell 1 _ rfl
        have c_t_2 := B_t.cell 2 _ rfl
        have c_t_3 := B_t.cell 3 _ rfl
        have n_t := B_t.lt
        go_wp2_with fail
        refine (implSafeIn_c _ (rs', ws') _ (diskC.vext H.out.2 (by repeat (first | with_reducible exact Ext.refl _ | with_reducible assumption | with_reducible refine Ext.pAlloc ?_ _ | ((with_reducible refine Ext.pSet ?_ ?_ _); rotate_left; (simp <;> omega)) | with_reducible refine Ext.pDrew ?_ | with_reducible refine Ext.pDrewN ?_ _)))).mono ?_
        rw [H2.out]
        rintro e w3 ⟨rfl, Ew3⟩
        have Xw3 : Ext w w3 := Ext.trans (by repeat (first | with_reducible exact Ext.refl _ | with_reducible assumption | with_reducible refine Ext.pAlloc ?_ _ | ((with_reducible refine Ext.pSet ?_ ?_ _); rotate_left; (simp <;> omega)) | with_reducible refine Ext.pDrew ?_ | with_reducible refine Ext.pDrewN ?_ _)) Ew3
        have zw3 : w2.heap.size ≤ w3.heap.size := by have := Ew3.size; (try simp at this); omega
        have B_t' : Bx w3 w.heap.size [.slice ua rs.length uc, .slice va ws.length vc, .slice ua' rs'.length uc', .slice va' ws'.length vc'] := Bx.ext (by repeat (first | with_reducible assumption | with_reducible exact Bx.new _ _ _ _ rfl | ((with_reducible refine Bx.new _ _ _ _ ?_); simp; done) | with_reducible refine Bx.pAlloc ?_ _ | with_reducible refine Bx.pDrew ?_ | with_reducible refine Bx.pDrewN ?_ _ | with_reducible apply Bx.set10 | with_reducible apply Bx.set20 | with_reducible apply Bx.set21 | with_reducible apply Bx.set30 | with_reducible apply Bx.set31 | with_reducible apply Bx.set32 | with_reducible apply Bx.set40 | with_reducible apply Bx.set41 | with_reducible apply Bx.set42 | with_reducible apply Bx.set43 | ((with_reducible refine Bx.set_other ?_ ?_ _); rotate_left; (simp <;> omega)))) Ew3
        clear c_t_0 c_t_1 c_t_2 c_t_3 n_t
        clear B_t
        have B_t := B_t'; clear B_t'
        clear Ew3 Xw2
        have c_t_0 := B_t.cell 0 _ rfl
        have c_t_1 := B_t.cell 1 _ rfl
        have c_t_2 := B_t.cell 2 _ rfl
        have c_t_3 := B_t.cell 3 _ rfl
        have n_t := B_t.lt
        go_wp2
        go_ret
        exact ⟨retB (by simp [equalIn, H2.out]), by repeat (first | with_reducible exact Ext.refl _ | with_reducible assumption | with_reducible refine Ext.pAlloc ?_ _ | ((with_reducible refine Ext.pSet ?_ ?_ _); rotate_left; (simp <;> omega)) | with_reducible refine Ext.pDrew ?_ | with_reducible refine Ext.pDrewN ?_ _)⟩
      · have Hl := Lib.hid hlen
        have H1 := Lib.hid s1; have H2 := Lib.hid s2; clear s1 s2 hlen
        have Ht := Lib.hid ht; clear ht
        go_enter Try.func14, Try.ntmps14
        go_wp2_with fail
        refine (implTwoOk_c _ ((rs, ws), (rs', ws')) _ (twoC.vext HT.out (by repeat (first | with_reducible exact Ext.refl _ | with_reducible assumption | with_reducible refine Ext.pAlloc ?_ _ | ((with_reducible refine Ext.pSet ?_ ?_ _); rotate_left; (simp <;> omega)) | with_reducible refine Ext.pDrew ?_ | with_reducible refine Ext.pDrewN ?_ _)))).mono ?_
        rw [Ht.out]
        rintro e w1 ⟨rfl, Ew1⟩
        have Xw1 : Ext w w1 := Ext.trans (by repeat (first | with_reducible exact Ext.refl _ | with_reducible assumption | with_reducible refine Ext.pAlloc ?_ _ | ((with_reducible refine Ext.pSet ?_ ?_ _); rotate_left; (simp <;> omega)) | with_reducible refine Ext.pDrew ?_ | with_reducible refine Ext.pDrewN ?_ _)) Ew1
        have zw1 : w.heap.size + 1 ≤ w1.heap.size := by have := Ew1.size; (try simp at this); omega
        have B_t' : Bx w1 w.heap.size [.slice ua rs.length uc, .slice va ws.length vc, .slice ua' rs'.length uc', .slice va' ws'.length vc'] := Bx.ext (by repeat (first | with_reducible assumption | with_reducible exact Bx.new _ _ _ _ rfl | ((with_reducible refine Bx.new _ _ _ _ ?_); simp; done) | with_reducible refine Bx.pAlloc ?_ _ | with_reducible refine Bx.pDrew ?_ | with_reducible refine Bx.pDrewN ?_ _ | with_reducible apply Bx.set10 | with_reducible apply Bx.set20 | with_reducible apply Bx.set21 | with_reducible apply Bx.set30 | with_reducible apply Bx.set31 | with_reducible apply Bx.set32 | with_reducible apply Bx.set40 | with_reducible apply Bx.set41 | with_reducible apply Bx.set42 | with_reducible apply Bx.set43 | ((with_reducible refine Bx.set_other ?_ ?_ _); rotate_left; (simp <;> omega)))) Ew1
        have B_t := B_t'; clear B_t'
        clear Ew1
        have c_t_0 := B_t.cell 0 _ rfl
        have c_t_1 := B_t.cell 1 _ rfl
        have c_t_2 := B_t.cell 2 _ rfl
        have c_t_3 := B_t.cell 3 _ rfl
        have n_t := B_t.lt
        go_wp2_with fail
        refine (implSafeIn_c _ (rs, ws) _ (diskC.vext H.out.1 (by repeat (first | with_reducible exact Ext.refl _ | with_reducible assumption | with_reducible refine Ext.pAlloc ?_ _ | ((with_reducible refine Ext.pSet ?_ ?_ _); rotate_left; (simp <;> omega)) | with_reducible refine Ext.pDrew ?_ | with_reducible refine Ext.pDrewN ?_ _)))).mono ?_
        rw [H1.out]
        rintro e w2 ⟨rfl, Ew2⟩
        have Xw2 : Ext w w2 := Ext.trans (by repeat (first | with_reducible exact Ext.refl _ | with_reducible assumption | with_reducible refine Ext.pAlloc ?_ _ | ((with_reducible refine Ext.pSet ?_ ?_ _); rotate_left; (simp <;> omega)) | with_reducible refine Ext.pDrew ?_ | with_reducible refine Ext.pDrewN ?_ _)) Ew2
        have zw2 : w1.heap.size ≤ w2.heap.size := by have := Ew2.size; (try simp at this); omega
        have B_t' : Bx w2 w.heap.size [.slice ua rs.length uc, .slice va ws.length vc, .slice ua' rs'.length uc', .slice va' ws'.length vc'] := Bx.ext (by repeat (first | with_reducible assumption | with_reducible exact Bx.new _ _ _ _ rfl | ((with_reducible refine Bx.new _ _ _ _ ?_); simp; done) | with_reducible refine Bx.pAlloc ?_ _ | with_reducible refine Bx.pDrew ?_ | with_reducible refine Bx.pDrewN ?_ _ | with_reducible apply Bx.set10 | with_reducible apply Bx.set20 | with_reducible apply Bx.set21 | with_reducible apply Bx.set30 | with_reducible apply Bx.set31 | with_reducible apply Bx.set32 | with_reducible apply Bx.set40 | with_reducible apply Bx.set41 | with_reducible apply Bx.set42 | with_reducible apply Bx.set43 | ((with_reducible refine Bx.set_other ?_ ?_ _); rotate_left; (simp <;> omega)))) Ew2
        clear c_t_0 c_t_1 c_t_2 c_t_3 n_t
        clear B_t
        have B_t := B_t'; clear B_t'
        clear Ew2 Xw1
        have c_t_0 := B_t.cell 0 _ rfl
        have c_t_1 := B_t.cell 1 _ rfl
        have c_t_2 := B_t.cell 2 _ rfl
        have c_t_3 := B_t.cell 3 _ rfl
        have n_t := B_t.lt
        go_wp2_with fail
        refine (implSafeIn_c _ (rs', ws') _ (diskC.vext H.out.2 (by repeat (first | with_reducible exact Ext.refl _ | with_reducible assumption | with_reducible refine Ext.pAlloc ?_ _ | ((with_reducible refine Ext.pSet ?_ ?_ _); rotate_left; (simp <;> omega)) | with_reducible refine Ext.pDrew ?_ | with_reducible refine Ext.pDrewN ?_ _)))).mono ?_
        rw [H2.out]
        rintro e w3 ⟨rfl, Ew3⟩
        have Xw3 : Ext w w3 := Ext.trans (by repeat (first | with_reducible exact Ext.refl _ | with_reducible assumption | with_reducible refine Ext.pAlloc ?_ _ | ((with_reducible refine Ext.pSet ?_ ?_ _); rotate_left; (simp <;> omega)) | with_reducible refine Ext.pDrew ?_ | with_reducible refine Ext.pDrewN ?_ _)) Ew3
        have zw3 : w2.heap.size ≤ w3.heap.size := by have := Ew3.size; (try simp at this); omega
        have B_t' : Bx w3 w.heap.size [.slice ua rs.length uc, .slice va ws.length vc, .slice ua' rs'.length uc', .slice va' ws'.length vc'] := Bx.ext (by repeat (first | with_reducible assumption | with_reducible exact Bx.new _ _ _ _ rfl | ((with_reducible refine Bx.new _ _ _ _ ?_); simp; done) | with_reducible refine Bx.pAlloc ?_ _ | with_reducible refine Bx.pDrew ?_ | with_reducible refine Bx.pDrewN ?_ _ | with_reducible apply Bx.set10 | with_reducible apply Bx.set20 | with_reducible apply Bx.set21 | with_reducible apply Bx.set30 | with_reducible apply Bx.set31 | with_reducible apply Bx.set32 | with_reducible apply Bx.set40 | with_reducible apply Bx.set41 | with_reducible apply Bx.set42 | with_reducible apply Bx.set43 | ((with_reducible refine Bx.set_other ?_ ?_ _); rotate_left; (simp <;> omega)))) Ew3
        clear c_t_0 c_t_1 c_t_2 c_t_3 n_t
        clear B_t
        have B_t := B_t'; clear B_t'
        clear Ew3 Xw2
        have c_t_0 := B_t.cell 0 _ rfl
        have c_t_1 := B_t.cell 1 _ rfl
        have c_t_2 := B_t.cell 2 _ rfl
        have c_t_3 := B_t.cell 3 _ rfl
        have n_t := B_t.lt
        go_wp2
        go_loopw [3, 4, 24] (fun _ _ i wr => ∃ k : Nat, k ≤ rs.length ∧ i = .int .i64 k ∧ Hid (rs.take k = rs'.take k) ∧ Bx wr w.heap.size [.slice ua rs.length uc, .slice va ws.length vc, .slice ua' rs'.length uc', .slice va' ws'.length vc'] ∧ Ext w wr) (fun _ _ i _ => rs.length - (intOf i).toNat)
        case atStart => exact ⟨0, Nat.zero_le _, rfl, rfl, by repeat (first | with_reducible assumption | with_reducible exact Bx.new _ _ _ _ rfl | ((with_reducible refine Bx.new _ _ _ _ ?_); simp; done) | with_reducible refine Bx.pAlloc ?_ _ | with_reducible refine Bx.pDrew ?_ | with_reducible refine Bx.pDrewN ?_ _ | with_reducible apply Bx.set10 | with_reducible apply Bx.set20 | with_reducible apply Bx.set21 | with_reducible apply Bx.set30 | with_reducible apply Bx.set31 | with_reducible apply Bx.set32 | with_reducible apply Bx.set40 | with_reducible apply Bx.set41 | with_reducible apply Bx.set42 | with_reducible apply Bx.set43 | ((with_reducible refine Bx.set_other ?_ ?_ _); rotate_left; (simp <;> omega))), by repeat (first | with_reducible exact Ext.refl _ | with_reducible assumption | with_reducible refine Ext.pAlloc ?_ _ | ((with_reducible refine Ext.pSet ?_ ?_ _); rotate_left; (simp <;> omega)) | with_reducible refine Ext.pDrew ?_ | with_reducible refine Ext.pDrewN ?_ _)⟩
        case round =>
          clear c_t_0 c_t_1 c_t_2 c_t_3 n_t
          clear B_t Xw3
          obtain ⟨k, hk, rfl, Hp, B_t, X⟩ := hrel
          by_cases hlt : k < rs.length
          · obtain ⟨b, off, x, ux, rfl, hx, hvx, hcell⟩ := hc k hlt
            obtain ⟨b', off', y, uy, rfl, hy, hvy, hcell'⟩ := hc' k (by rw [← Hl.out]; exact hlt)
            clear hc hc'
            obtain ⟨xa, xc, rfl⟩ := u_slice hvx
            obtain ⟨ya, yc, rfl⟩ := u_slice hvy
            have HX := Lib.hid (rowC.vext hvx X)
            have HY := Lib.hid (rowC.vext hvy X)
            have e0 := cell_ext hcell X
            have e1 := cell_ext hcell' X
            have n_x := World.block_lt_of_cell? _ _ e0
            have n_y := World.block_lt_of_cell? _ _ e1
            have hi1 : (0 : Int) ≤ k := by omega
            have hi2 : (k : Int) < rs.length := by omega
            have hi3 : (k : Int) < rs'.length := by rw [← Hl.out]; omega
            have c0 := B_t.cell 0 _ rfl
            have c2 := B_t.cell 2 _ rfl
            have n_t := B_t.lt
            clear hcell hcell' hvx hvy
            cases hd : decide (x = y)
            · have Hd := Lib.hid hd; clear hd
              go_wp2_with fail
              refine (implSameRow_c _ _ x y _ HX.out HY.out).mono ?_
              rw [Hd.out]
              rintro e w5 ⟨rfl, hE5⟩
              have X5 := X.trans hE5
              have B_t5 := B_t.ext hE5
              clear c0 c2 e0 e1 n_t
              go_wp2
              go_ret
              exact ⟨retB (by symm; simp only [equalIn, Bool.and_eq_false_iff, decide_eq_false_iff_not]; right; intro e; subst e; exact of_decide_eq_false Hd.out (Option.some.inj (hx.out.symm.trans hy.out))), X5⟩
            · have Hd := Lib.hid hd; clear hd
              go_wp2_with fail
              refine (implSameRow_c _ _ x y _ HX.out HY.out).mono ?_
              rw [Hd.out]
              rintro e w5 ⟨rfl, hE5⟩
              have X5 := X.trans hE5
              have B_t5 := B_t.ext hE5
              clear c0 c2 e0 e1 n_t
              go_wp2
              go_roundw
              case rel => exact ⟨k + 1, by omega, by go_num, Lib.hid (by rw [take_snoc hx, take_snoc hy, Hp.out, of_decide_eq_true Hd.out]), B_t5, X5⟩
              case measure => simp [intOf]; omega
          · have he : k = rs.length := by omega
            have He := Lib.hid he
            have c0 := B_t.cell 0 _ rfl
            have n_t := B_t.lt
            clear he hc hc'
            go_wp2
            go_ret
            exact ⟨retB (by have e : rs = rs' := equal_rows Hl.out (by have := Hp.out; rw [He.out] at this; exact this); have a1 := Ht.out; have a2 := H1.out; have a3 := H2.out; subst e; simp [equalIn, a1, a2, a3]), X⟩


end Go.Proofs.Ytbapomhoipdanaa
