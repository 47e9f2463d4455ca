/- Disks: a write that waits. -/
import Derived.Test.YtbapomhoipdanaaCp2
set_option linter.unusedVariables false
set_option linter.unusedSimpArgs false
namespace Go.Proofs.Ytbapomhoipdanaa
open Go.RowKit Go.Sl

def wrote (d : DiskD) (n : Int) (row : List Int) : DiskD × Bool :=
  if diskOk d = true then
    (if inB n 0 ((d.1.length : Int) - 1) = true ∧ rowOk row = true ∧ d.2.length < 60 then ((d.1, d.2 ++ [(n, row)]), true) else (d, false))
  else (([], []), false)


set_option maxHeartbeats 8000000 in
set_option maxRecDepth 20000 in
theorem specWrote_c (cs : List Value) (d : DiskD) (n : Int) (rv : Value) (row : List Int) (w : World) (h : diskC.V w cs d) (hr : rowC.V w [rv] row) :
    Calls Try.prog 65 #[.agg cs.toArray, .int .i64 n, rv] w fun e w' => ∃ u v, e = .returned (.tuple #[.agg #[u, v], .bool (wrote d n row).2]) ∧ Ext w w' ∧ diskC.own w.heap.size w'.heap.size w' [u, v] (wrote d n row).1 := by
  have HD := Lib.hid h
  obtain ⟨u, v, rfl, hu, hv⟩ := disk_V.1 h
  obtain ⟨rs, ws⟩ := d
  simp only at hu hv
  obtain ⟨a, cap, rfl⟩ := sl_form hu
  obtain ⟨a', cap', rfl⟩ := sl_form hv
  obtain ⟨ra, rc, rfl⟩ := u_slice hr
  have HR := Lib.hid hr
  have hinf : (Try.prog.info? 59).map (fun i => (i.zero, i.size, i.bytes)) = some (some (.agg #[.int .i64 0, .slice none 0 0]), 2, 32) := by kernel_rfl
  have Hinf := Lib.hid hinf
  clear hu hv h hr hinf
  cases hd : diskOk (rs, ws)
  · have hr : wrote (rs, ws) n row = (([], []), false) := by unfold wrote; rw [hd]; simp
    rw [hr]
    have Hd := Lib.hid hd; clear hd hr
    go_enter Try.func65, Try.ntmps65
    go_wp2_with fail
    refine (specDiskOk_c _ (rs, ws) _ (diskC.vext HD.out (by repeat (first | with_reducible exact Ext.refl _ | with_reducible assumption | with_reducible refine Ext.pAlloc ?_ _ | ((with_reducible refine Ext.pSet ?_ ?_ _); rotate_left; (simp <;> omega)) | with_reducible refine Ext.pDrew ?_ | with_reducible refine Ext.pDrewN ?_ _)))).mono ?_
    rw [Hd.out]
    rintro e w1 ⟨rfl, Ew1⟩
    have Xw1 : Ext w w1 := Ext.trans (by repeat (first | with_reducible exact Ext.refl _ | with_reducible assumption | with_reducible refine Ext.pAlloc ?_ _ | ((with_reducible refine Ext.pSet ?_ ?_ _); rotate_left; (simp <;> omega)) | with_reducible refine Ext.pDrew ?_ | with_reducible refine Ext.pDrewN ?_ _)) Ew1
    have zw1 : w.heap.size + 1 + 1 ≤ w1.heap.size := by have := Ew1.size; (try simp at this); omega
    have B_d' : Bx w1 w.heap.size [.slice a rs.length cap, .slice a' ws.length cap'] := Bx.ext (by repeat (first | with_reducible assumption | with_reducible exact Bx.new _ _ _ _ rfl | ((with_reducible refine Bx.new _ _ _ _ ?_); simp; done) | with_reducible refine Bx.pAlloc ?_ _ | with_reducible refine Bx.pDrew ?_ | with_reducible refine Bx.pDrewN ?_ _ | with_reducible apply Bx.set10 | with_reducible apply Bx.set20 | with_reducible apply Bx.set21 | with_reducible apply Bx.set30 | with_reducible apply Bx.set31 | with_reducible apply Bx.set32 | with_reducible apply Bx.set40 | with_reducible apply Bx.set41 | with_reducible apply Bx.set42 | with_reducible apply Bx.set43 | ((with_reducible refine Bx.set_other ?_ ?_ _); rotate_left; (simp <;> omega)))) Ew1
    have B_r' : Bx w1 (w.heap.size + 1) [.slice none 0 0, .slice none 0 0] := Bx.ext (by repeat (first | with_reducible assumption | with_reducible exact Bx.new _ _ _ _ rfl | ((with_reducible refine Bx.new _ _ _ _ ?_); simp; done) | with_reducible refine Bx.pAlloc ?_ _ | with_reducible refine Bx.pDrew ?_ | with_reducible refine Bx.pDrewN ?_ _ | with_reducible apply Bx.set10 | with_reducible apply Bx.set20 | with_reducible apply Bx.set21 | with_reducible apply Bx.set30 | with_reducible apply Bx.set31 | with_reducible apply Bx.set32 | with_reducible apply Bx.set40 | with_reducible apply Bx.set41 | with_reducible apply Bx.set42 | with_reducible apply Bx.set43 | ((with_reducible refine Bx.set_other ?_ ?_ _); rotate_left; (simp <;> omega)))) Ew1
    have B_d := B_d'; clear B_d'
    have B_r := B_r'; clear B_r'
    clear Ew1
    have c_d_0 := B_d.cell 0 _ rfl
    have c_d_1 := B_d.cell 1 _ rfl
    have n_d := B_d.lt
    have c_r_0 := B_r.cell 0 _ rfl
    have c_r_1 := B_r.cell 1 _ rfl
    have n_r := B_r.lt
    have f_r := B_r.fr
    go_wp2
    refine bodyPost_ret (v := .tuple #[.agg #[.slice none 0 0, .slice none 0 0], .bool false]) (by simp [results, Try.results65, go_sem, c_r_0, c_r_1]) rfl ⟨_, _, rfl, ?_, ?_⟩
    · repeat (first | with_reducible exact Ext.refl _ | with_reducible assumption | with_reducible refine Ext.pAlloc ?_ _ | ((with_reducible refine Ext.pSet ?_ ?_ _); rotate_left; (simp <;> omega)) | with_reducible refine Ext.pDrew ?_ | with_reducible refine Ext.pDrewN ?_ _)
    · exact prod_own (c := [_]) (d := [_]) (mid := w.heap.size) (sl_nil _ _ _) (sl_nil _ _ _) (Nat.le_refl _) (by simp [World.setCell]; omega)
  · have Hd := Lib.hid hd
    obtain ⟨z1, z2, z3, z4, z5⟩ := diskOk_rows hd
    clear z1 z2
    cases hs : inB n 0 ((rs.length : Int) - 1)
    · have hr : wrote (rs, ws) n row = ((rs, ws), false) := by unfold wrote; rw [hd]; simp [hs]
      rw [hr]
      have Hs := Lib.hid hs; clear hs hd hr
      go_enter Try.func65, Try.ntmps65
      go_wp2_with fail
      refine (specDiskOk_c _ (rs, ws) _ (diskC.vext HD.out (by repeat (first | with_reducible exact Ext.refl _ | with_reducible assumption | with_reducible refine Ext.pAlloc ?_ _ | ((with_reducible refine Ext.pSet ?_ ?_ _); rotate_left; (simp <;> omega)) | with_reducible refine Ext.pDrew ?_ | with_reducible refine Ext.pDrewN ?_ _)))).mono ?_
      rw [Hd.out]
      rintro e w1 ⟨rfl, Ew1⟩
      have Xw1 : Ext w w1 := Ext.trans (by repeat (first | with_reducible exact Ext.refl _ | with_reducible assumption | with_reducible refine Ext.pAlloc ?_ _ | ((with_reducible refine Ext.pSet ?_ ?_ _); rotate_left; (simp <;> omega)) | with_reducible refine Ext.pDrew ?_ | with_reducible refine Ext.pDrewN ?_ _)) Ew1
      have zw1 : w.heap.size + 1 + 1 ≤ w1.heap.size := by have := Ew1.size; (try simp at this); omega
      have B_d' : Bx w1 w.heap.size [.slice a rs.length cap, .slice a' ws.length cap'] := Bx.ext (by repeat (first | with_reducible assumption | with_reducible exact Bx.new _ _ _ _ rfl | ((with_reducible refine Bx.new _ _ _ _ ?_); simp; done) | with_reducible refine Bx.pAlloc ?_ _ | with_reducible refine Bx.pDrew ?_ | with_reducible refine Bx.pDrewN ?_ _ | with_reducible apply Bx.set10 | with_reducible apply Bx.set20 | with_reducible apply Bx.set21 | with_reducible apply Bx.set30 | with_reducible apply Bx.set31 | with_reducible apply Bx.set32 | with_reducible apply Bx.set40 | with_reducible apply Bx.set41 | with_reducible apply Bx.set42 | with_reducible apply Bx.set43 | ((with_reducible refine Bx.set_other ?_ ?_ _); rotate_left; (simp <;> omega)))) Ew1
      have B_r' : Bx w1 (w.heap.size + 1) [.slice none 0 0, .slice none 0 0] := Bx.ext (by repeat (first | with_reducible assumption | with_reducible exact Bx.new _ _ _ _ rfl | ((with_reducible refine Bx.new _ _ _ _ ?_); simp; done) | with_reducible refine Bx.pAlloc ?_ _ | with_reducible refine Bx.pDrew ?_ | with_reducible refine Bx.pDrewN ?_ _ | with_reducible apply Bx.set10 | with_reducible apply Bx.set20 | with_reducible apply Bx.set21 | with_reducible apply Bx.set30 | with_reducible apply Bx.set31 | with_reducible apply Bx.set32 | with_reducible apply Bx.set40 | with_reducible apply Bx.set41 | with_reducible apply Bx.set42 | with_reducible apply Bx.set43 | ((with_reducible refine Bx.set_other ?_ ?_ _); rotate_left; (simp <;> omega)))) Ew1
      have B_d := B_d'; clear B_d'
      have B_r := B_r'; clear B_r'
      clear Ew1
      have c_d_0 := B_d.cell 0 _ rfl
      have c_d_1 := B_d.cell 1 _ rfl
      have n_d := B_d.lt
      have c_r_0 := B_r.cell 0 _ rfl
      have c_r_1 := B_r.cell 1 _ rfl
      have n_r := B_r.lt
      have f_r := B_r.fr
      go_wp2_with fail
      refine (l3Copy_c _ (rs, ws) _ (diskC.vext HD.out (by repeat (first | with_reducible exact Ext.refl _ | with_reducible assumption | with_reducible refine Ext.pAlloc ?_ _ | ((with_reducible refine Ext.pSet ?_ ?_ _); rotate_left; (simp <;> omega)) | with_reducible refine Ext.pDrew ?_ | with_reducible refine Ext.pDrewN ?_ _))) Hd.out).mono ?_
      rintro e w2 ⟨u1, v1, rfl, Ew2, mid, hm1, hm2, O_ck, O_cw⟩
      simp only at O_ck O_cw
      obtain ⟨ka, kc, rfl⟩ := sl_form O_ck.view
      obtain ⟨wa, wc, rfl⟩ := sl_form O_cw.view
      replace O_ck := O_ck.wide (lo' := w1.heap.size) (by first | omega | (simp <;> omega)) (Nat.le_refl _)
      replace hm1 : w1.heap.size ≤ mid := (by first | omega | (simp <;> omega))
      replace hm2 : mid ≤ w2.heap.size := hm2
      have Xw2 : Ext w w2 := Ext.trans (by repeat (first | with_reducible exact Ext.refl _ | with_reducible assumption | with_reducible refine Ext.pAlloc ?_ _ | ((with_reducible refine Ext.pSet ?_ ?_ _); rotate_left; (simp <;> omega)) | with_reducible refine Ext.pDrew ?_ | with_reducible refine Ext.pDrewN ?_ _)) Ew2
      have zw2 : w1.heap.size ≤ w2.heap.size := by have := Ew2.size; (try simp at this); omega
      have B_d' : Bx w2 w.heap.size [.slice a rs.length cap, .slice a' ws.length cap'] := Bx.ext (by repeat (first | with_reducible assumption | with_reducible exact Bx.new _ _ _ _ rfl | ((with_reducible refine Bx.new _ _ _ _ ?_); simp; done) | with_reducible refine Bx.pAlloc ?_ _ | with_reducible refine Bx.pDrew ?_ | with_reducible refine Bx.pDrewN ?_ _ | with_reducible apply Bx.set10 | with_reducible apply Bx.set20 | with_reducible apply Bx.set21 | with_reducible apply Bx.set30 | with_reducible apply Bx.set31 | with_reducible apply Bx.set32 | with_reducible apply Bx.set40 | with_reducible apply Bx.set41 | with_reducible apply Bx.set42 | with_reducible apply Bx.set43 | ((with_reducible refine Bx.set_other ?_ ?_ _); rotate_left; (simp <;> omega)))) Ew2
      have B_r' : Bx w2 (w.heap.size + 1) [.slice none 0 0, .slice none 0 0] := Bx.ext (by repeat (first | with_reducible assumption | with_reducible exact Bx.new _ _ _ _ rfl | ((with_reducible refine Bx.new _ _ _ _ ?_); simp; done) | with_reducible refine Bx.pAlloc ?_ _ | with_reducible refine Bx.pDrew ?_ | with_reducible refine Bx.pDrewN ?_ _ | with_reducible apply Bx.set10 | with_reducible apply Bx.set20 | with_reducible apply Bx.set21 | with_reducible apply Bx.set30 | with_reducible apply Bx.set31 | with_reducible apply Bx.set32 | with_reducible apply Bx.set40 | with_reducible apply Bx.set41 | with_reducible apply Bx.set42 | with_reducible apply Bx.set43 | ((with_reducible refine Bx.set_other ?_ ?_ _); rotate_left; (simp <;> omega)))) Ew2
      clear c_d_0 c_d_1 n_d c_r_0 c_r_1 n_r f_r
      clear B_d
      have B_d := B_d'; clear B_d'
      clear B_r
      have B_r := B_r'; clear B_r'
      clear Ew2 Xw1
      have c_d_0 := B_d.cell 0 _ rfl
      have c_d_1 := B_d.cell 1 _ rfl
      have n_d := B_d.lt
      have c_r_0 := B_r.cell 0 _ rfl
      have c_r_1 := B_r.cell 1 _ rfl
      have n_r := B_r.lt
      have f_r := B_r.fr
      go_wp2_with fail
      refine (l3Has_c _ (rs, ws) _ _ (diskC.vext HD.out (by repeat (first | with_reducible exact Ext.refl _ | with_reducible assumption | with_reducible refine Ext.pAlloc ?_ _ | ((with_reducible refine Ext.pSet ?_ ?_ _); rotate_left; (simp <;> omega)) | with_reducible refine Ext.pDrew ?_ | with_reducible refine Ext.pDrewN ?_ _)))).mono ?_
      dsimp only
      rw [Hs.out]
      rintro e w3 ⟨rfl, Ew3⟩
      have Xw3 : Ext w w3 := Ext.trans (by repeat (first | with_reducible exact Ext.refl _ | with_reducible assumption | with_reducible refine Ext.pAlloc ?_ _ | ((with_reducible refine Ext.pSet ?_ ?_ _); rotate_left; (simp <;> omega)) | with_reducible refine Ext.pDrew ?_ | with_reducible refine Ext.pDrewN ?_ _)) Ew3
      have zw3 : w2.heap.size + 1 ≤ w3.heap.size := by have := Ew3.size; (try simp at this); omega
      have B_d' : Bx w3 w.heap.size [.slice a rs.length cap, .slice a' ws.length cap'] := Bx.ext (by repeat (first | with_reducible assumption | with_reducible exact Bx.new _ _ _ _ rfl | ((with_reducible refine Bx.new _ _ _ _ ?_); simp; done) | with_reducible refine Bx.pAlloc ?_ _ | with_reducible refine Bx.pDrew ?_ | with_reducible refine Bx.pDrewN ?_ _ | with_reducible apply Bx.set10 | with_reducible apply Bx.set20 | with_reducible apply Bx.set21 | with_reducible apply Bx.set30 | with_reducible apply Bx.set31 | with_reducible apply Bx.set32 | with_reducible apply Bx.set40 | with_reducible apply Bx.set41 | with_reducible apply Bx.set42 | with_reducible apply Bx.set43 | ((with_reducible refine Bx.set_other ?_ ?_ _); rotate_left; (simp <;> omega)))) Ew3
      have B_r' : Bx w3 (w.heap.size + 1) [.slice none 0 0, .slice none 0 0] := Bx.ext (by repeat (first | with_reducible assumption | with_reducible exact Bx.new _ _ _ _ rfl | ((with_reducible refine Bx.new _ _ _ _ ?_); simp; done) | with_reducible refine Bx.pAlloc ?_ _ | with_reducible refine Bx.pDrew ?_ | with_reducible refine Bx.pDrewN ?_ _ | with_reducible apply Bx.set10 | with_reducible apply Bx.set20 | with_reducible apply Bx.set21 | with_reducible apply Bx.set30 | with_reducible apply Bx.set31 | with_reducible apply Bx.set32 | with_reducible apply Bx.set40 | with_reducible apply Bx.set41 | with_reducible apply Bx.set42 | with_reducible apply Bx.set43 | ((with_reducible refine Bx.set_other ?_ ?_ _); rotate_left; (simp <;> omega)))) Ew3
      have B_o' : Bx w3 w2.heap.size [.slice ka rs.length kc, .slice wa ws.length wc] := Bx.ext (by repeat (first | with_reducible assumption | with_reducible exact Bx.new _ _ _ _ rfl | ((with_reducible refine Bx.new _ _ _ _ ?_); simp; done) | with_reducible refine Bx.pAlloc ?_ _ | with_reducible refine Bx.pDrew ?_ | with_reducible refine Bx.pDrewN ?_ _ | with_reducible apply Bx.set10 | with_reducible apply Bx.set20 | with_reducible apply Bx.set21 | with_reducible apply Bx.set30 | with_reducible apply Bx.set31 | with_reducible apply Bx.set32 | with_reducible apply Bx.set40 | with_reducible apply Bx.set41 | with_reducible apply Bx.set42 | with_reducible apply Bx.set43 | ((with_reducible refine Bx.set_other ?_ ?_ _); rotate_left; (simp <;> omega)))) Ew3
      have O_ck' : (rowsC).own (w1.heap.size) (mid) w3 [.slice ka rs.length kc] (rs) := Cd.own.ext (by repeat (first | with_reducible assumption | with_reducible refine Cd.own.pAlloc ?_ _ | with_reducible refine Cd.own.pDrew ?_ | with_reducible refine Cd.own.pDrewN ?_ _ | ((with_reducible refine Cd.own.pSet ?_ ?_ _); rotate_left; (simp <;> omega)))) Ew3
      have O_cw' : (waitC).own (mid) (w2.heap.size) w3 [.slice wa ws.length wc] (ws) := Cd.own.ext (by repeat (first | with_reducible assumption | with_reducible refine Cd.own.pAlloc ?_ _ | with_reducible refine Cd.own.pDrew ?_ | with_reducible refine Cd.own.pDrewN ?_ _ | ((with_reducible refine Cd.own.pSet ?_ ?_ _); rotate_left; (simp <;> omega)))) Ew3
      clear c_d_0 c_d_1 n_d c_r_0 c_r_1 n_r f_r
      clear B_d
      have B_d := B_d'; clear B_d'
      clear B_r
      have B_r := B_r'; clear B_r'
      have B_o := B_o'; clear B_o'
      clear O_ck; have O_ck := O_ck'; clear O_ck'
      clear O_cw; have O_cw := O_cw'; clear O_cw'
      clear Ew3 Xw2
      have c_d_0 := B_d.cell 0 _ rfl
      have c_d_1 := B_d.cell 1 _ rfl
      have n_d := B_d.lt
      have c_r_0 := B_r.cell 0 _ rfl
      have c_r_1 := B_r.cell 1 _ rfl
      have n_r := B_r.lt
      have f_r := B_r.fr
      have c_o_0 := B_o.cell 0 _ rfl
      have c_o_1 := B_o.cell 1 _ rfl
      have n_o := B_o.lt
      have f_o := B_o.fr
      go_wp2
      refine bodyPost_ret (v := .tuple #[.agg #[.slice ka rs.length kc, .slice wa ws.length wc], .bool false]) (by simp [results, Try.results65, go_sem, c_r_0, c_r_1]) rfl ⟨_, _, rfl, ?_, ?_⟩
      · repeat (first | with_reducible exact Ext.refl _ | with_reducible assumption | with_reducible refine Ext.pAlloc ?_ _ | ((with_reducible refine Ext.pSet ?_ ?_ _); rotate_left; (simp <;> omega)) | with_reducible refine Ext.pDrew ?_ | with_reducible refine Ext.pDrewN ?_ _)
      · exact Cd.own.wide (prod_own (c := [_]) (d := [_]) (mid := mid) (by repeat (first | with_reducible assumption | with_reducible refine Cd.own.pAlloc ?_ _ | with_reducible refine Cd.own.pDrew ?_ | with_reducible refine Cd.own.pDrewN ?_ _ | ((with_reducible refine Cd.own.pSet ?_ ?_ _); rotate_left; (simp <;> omega)))) (by repeat (first | with_reducible assumption | with_reducible refine Cd.own.pAlloc ?_ _ | with_reducible refine Cd.own.pDrew ?_ | with_reducible refine Cd.own.pDrewN ?_ _ | ((with_reducible refine Cd.own.pSet ?_ ?_ _); rotate_left; (simp <;> omega)))) hm1 hm2) (by first | omega | (simp <;> omega)) (by first | (simp [World.setCell]; done) | (simp [World.setCell]; omega))
    · cases hrk : rowOk row
      · have hr : wrote (rs, ws) n row = ((rs, ws), false) := by unfold wrote; rw [hd]; simp [hrk]
        rw [hr]
        have Hs := Lib.hid hs; have Hr := Lib.hid hrk; clear hs hrk hd hr
        go_enter Try.func65, Try.ntmps65
        go_wp2_with fail
        refine (specDiskOk_c _ (rs, ws) _ (diskC.vext HD.out (by repeat (first | with_reducible exact Ext.refl _ | with_reducible assumption | with_reducible refine Ext.pAlloc ?_ _ | ((with_reducible refine Ext.pSet ?_ ?_ _); rotate_left; (simp <;> omega)) | with_reducible refine Ext.pDrew ?_ | with_reducible refine Ext.pDrewN ?_ _)))).mono ?_
        rw [Hd.out]
        rintro e w1 ⟨rfl, Ew1⟩
        have Xw1 : Ext w w1 := Ext.trans (by repeat (first | with_reducible exact Ext.refl _ | with_reducible assumption | with_reducible refine Ext.pAlloc ?_ _ | ((with_reducible refine Ext.pSet ?_ ?_ _); rotate_left; (simp <;> omega)) | with_reducible refine Ext.pDrew ?_ | with_reducible refine Ext.pDrewN ?_ _)) Ew1
        have zw1 : w.heap.size + 1 + 1 ≤ w1.heap.size := by have := Ew1.size; (try simp at this); omega
        have B_d' : Bx w1 w.heap.size [.slice a rs.length cap, .slice a' ws.length cap'] := Bx.ext (by repeat (first | with_reducible assumption | with_reducible exact Bx.new _ _ _ _ rfl | ((with_reducible refine Bx.new _ _ _ _ ?_); simp; done) | with_reducible refine Bx.pAlloc ?_ _ | with_reducible refine Bx.pDrew ?_ | with_reducible refine Bx.pDrewN ?_ _ | with_reducible apply Bx.set10 | with_reducible apply Bx.set20 | with_reducible apply Bx.set21 | with_reducible apply Bx.set30 | with_reducible apply Bx.set31 | with_reducible apply Bx.set32 | with_reducible apply Bx.set40 | with_reducible apply Bx.set41 | with_reducible apply Bx.set42 | with_reducible apply Bx.set43 | ((with_reducible refine Bx.set_other ?_ ?_ _); rotate_left; (simp <;> omega)))) Ew1
        have B_r' : Bx w1 (w.heap.size + 1) [.slice none 0 0, .slice none 0 0] := Bx.ext (by repeat (first | with_reducible assumption | with_reducible exact Bx.new _ _ _ _ rfl | ((with_reducible refine Bx.new _ _ _ _ ?_); simp; done) | with_reducible refine Bx.pAlloc ?_ _ | with_reducible refine Bx.pDrew ?_ | with_reducible refine Bx.pDrewN ?_ _ | with_reducible apply Bx.set10 | with_reducible apply Bx.set20 | with_reducible apply Bx.set21 | with_reducible apply Bx.set30 | with_reducible apply Bx.set31 | with_reducible apply Bx.set32 | with_reducible apply Bx.set40 | with_reducible apply Bx.set41 | with_reducible apply Bx.set42 | with_reducible apply Bx.set43 | ((with_reducible refine Bx.set_other ?_ ?_ _); rotate_left; (simp <;> omega)))) Ew1
        have B_d := B_d'; clear B_d'
        have B_r := B_r'; clear B_r'
        clear Ew1
        have c_d_0 := B_d.cell 0 _ rfl
        have c_d_1 := B_d.cell 1 _ rfl
        have n_d := B_d.lt
        have c_r_0 := B_r.cell 0 _ rfl
        have c_r_1 := B_r.cell 1 _ rfl
        have n_r := B_r.lt
        have f_r := B_r.fr
        go_wp2_with fail
        refine (l3Copy_c _ (rs, ws) _ (diskC.vext HD.out (by repeat (first | with_reducible exact Ext.refl _ | with_reducible assumption | with_reducible refine Ext.pAlloc ?_ _ | ((with_reducible refine Ext.pSet ?_ ?_ _); rotate_left; (simp <;> omega)) | with_reducible refine Ext.pDrew ?_ | with_reducible refine Ext.pDrewN ?_ _))) Hd.out).mono ?_
        rintro e w2 ⟨u1, v1, rfl, Ew2, mid, hm1, hm2, O_ck, O_cw⟩
        simp only at O_ck O_cw
        obtain ⟨ka, kc, rfl⟩ := sl_form O_ck.view
        obtain ⟨wa, wc, rfl⟩ := sl_form O_cw.view
        replace O_ck := O_ck.wide (lo' := w1.heap.size) (by first | omega | (simp <;> omega)) (Nat.le_refl _)
        replace hm1 : w1.heap.size ≤ mid := (by first | omega | (simp <;> omega))
        replace hm2 : mid ≤ w2.heap.size := hm2
        have Xw2 : Ext w w2 := Ext.trans (by repeat (first | with_reducible exact Ext.refl _ | with_reducible assumption | with_reducible refine Ext.pAlloc ?_ _ | ((with_reducible refine Ext.pSet ?_ ?_ _); rotate_left; (simp <;> omega)) | with_reducible refine Ext.pDrew ?_ | with_reducible refine Ext.pDrewN ?_ _)) Ew2
        have zw2 : w1.heap.size ≤ w2.heap.size := by have := Ew2.size; (try simp at this); omega
        have B_d' : Bx w2 w.heap.size [.slice a rs.length cap, .slice a' ws.length cap'] := Bx.ext (by repeat (first | with_reducible assumption | with_reducible exact Bx.new _ _ _ _ rfl | ((with_reducible refine Bx.new _ _ _ _ ?_); simp; done) | with_reducible refine Bx.pAlloc ?_ _ | with_reducible refine Bx.pDrew ?_ | with_reducible refine Bx.pDrewN ?_ _ | with_reducible apply Bx.set10 | with_reducible apply Bx.set20 | with_reducible apply Bx.set21 | with_reducible apply Bx.set30 | with_reducible apply Bx.set31 | with_reducible apply Bx.set32 | with_reducible apply Bx.set40 | with_reducible apply Bx.set41 | with_reducible apply Bx.set42 | with_reducible apply Bx.set43 | ((with_reducible refine Bx.set_other ?_ ?_ _); rotate_left; (simp <;> omega)))) Ew2
        have B_r' : Bx w2 (w.heap.size + 1) [.slice none 0 0, .slice none 0 0] := Bx.ext (by repeat (first | with_reducible assumption | with_reducible exact Bx.new _ _ _ _ rfl | ((with_reducible refine Bx.new _ _ _ _ ?_); simp; done) | with_reducible refine Bx.pAlloc ?_ _ | with_reducible refine Bx.pDrew ?_ | with_reducible refine Bx.pDrewN ?_ _ | with_reducible apply Bx.set10 | with_reducible apply Bx.set20 | with_reducible apply Bx.set21 | with_reducible apply Bx.set30 | with_reducible apply Bx.set31 | with_reducible apply Bx.set32 | with_reducible apply Bx.set40 | with_reducible apply Bx.set41 | with_reducible apply Bx.set42 | with_reducible apply Bx.set43 | ((with_reducible refine Bx.set_other ?_ ?_ _); rotate_left; (simp <;> omega)))) Ew2
        clear c_d_0 c_d_1 n_d c_r_0 c_r_1 n_r f_r
        clear B_d
        have B_d := B_d'; clear B_d'
        clear B_r
        have B_r := B_r'; clear B_r'
        clear Ew2 Xw1
        have c_d_0 := B_d.cell 0 _ rfl
        have c_d_1 := B_d.cell 1 _ rfl
        have n_d := B_d.lt
        have c_r_0 := B_r.cell 0 _ rfl
        have c_r_1 := B_r.cell 1 _ rfl
        have n_r := B_r.lt
        have f_r := B_r.fr
        go_wp2_with fail
        refine (l3Has_c _ (rs, ws) _ _ (diskC.vext HD.out (by repeat (first | with_reducible exact Ext.refl _ | with_reducible assumption | with_reducible refine Ext.pAlloc ?_ _ | ((with_reducible refine Ext.pSet ?_ ?_ _); rotate_left; (simp <;> omega)) | with_reducible refine Ext.pDrew ?_ | with_reducible refine Ext.pDrewN ?_ _)))).mono ?_
        dsimp only
        rw [Hs.out]
        rintro e w3 ⟨rfl, Ew3⟩
        have Xw3 : Ext w w3 := Ext.trans (by repeat (first | with_reducible exact Ext.refl _ | with_reducible assumption | with_reducible refine Ext.pAlloc ?_ _ | ((with_reducible refine Ext.pSet ?_ ?_ _); rotate_left; (simp <;> omega)) | with_reducible refine Ext.pDrew ?_ | with_reducible refine Ext.pDrewN ?_ _)) Ew3
        have zw3 : w2.heap.size + 1 ≤ w3.heap.size := by have := Ew3.size; (try simp at this); omega
        have B_d' : Bx w3 w.heap.size [.slice a rs.length cap, .slice a' ws.length cap'] := Bx.ext (by repeat (first | with_reducible assumption | with_reducible exact Bx.new _ _ _ _ rfl | ((with_reducible refine Bx.new _ _ _ _ ?_); simp; done) | with_reducible refine Bx.pAlloc ?_ _ | with_reducible refine Bx.pDrew ?_ | with_reducible refine Bx.pDrewN ?_ _ | with_reducible apply Bx.set10 | with_reducible apply Bx.set20 | with_reducible apply Bx.set21 | with_reducible apply Bx.set30 | with_reducible apply Bx.set31 | with_reducible apply Bx.set32 | with_reducible apply Bx.set40 | with_reducible apply Bx.set41 | with_reducible apply Bx.set42 | with_reducible apply Bx.set43 | ((with_reducible refine Bx.set_other ?_ ?_ _); rotate_left; (simp <;> omega)))) Ew3
        have B_r' : Bx w3 (w.heap.size + 1) [.slice none 0 0, .slice none 0 0] := Bx.ext (by repeat (first | with_reducible assumption | with_reducible exact Bx.new _ _ _ _ rfl | ((with_reducible refine Bx.new _ _ _ _ ?_); simp; done) | with_reducible refine Bx.pAlloc ?_ _ | with_reducible refine Bx.pDrew ?_ | with_reducible refine Bx.pDrewN ?_ _ | with_reducible apply Bx.set10 | with_reducible apply Bx.set20 | with_reducible apply Bx.set21 | with_reducible apply Bx.set30 | with_reducible apply Bx.set31 | with_reducible apply Bx.set32 | with_reducible apply Bx.set40 | with_reducible apply Bx.set41 | with_reducible apply Bx.set42 | with_reducible apply Bx.set43 | ((with_reducible refine Bx.set_other ?_ ?_ _); rotate_left; (simp <;> omega)))) Ew3
        have B_o' : Bx w3 w2.heap.size [.slice ka rs.length kc, .slice wa ws.length wc] := Bx.ext (by repeat (first | with_reducible assumption | with_reducible exact Bx.new _ _ _ _ rfl | ((with_reducible refine Bx.new _ _ _ _ ?_); simp; done) | with_reducible refine Bx.pAlloc ?_ _ | with_reducible refine Bx.pDrew ?_ | with_reducible refine Bx.pDrewN ?_ _ | with_reducible apply Bx.set10 | with_reducible apply Bx.set20 | with_reducible apply Bx.set21 | with_reducible apply Bx.set30 | with_reducible apply Bx.set31 | with_reducible apply Bx.set32 | with_reducible apply Bx.set40 | with_reducible apply Bx.set41 | with_reducible apply Bx.set42 | with_reducible apply Bx.set43 | ((with_reducible refine Bx.set_other ?_ ?_ _); rotate_left; (simp <;> omega)))) Ew3
        have O_ck' : (rowsC).own (w1.heap.size) (mid) w3 [.slice ka rs.length kc] (rs) := Cd.own.ext (by repeat (first | with_reducible assumption | with_reducible refine Cd.own.pAlloc ?_ _ | with_reducible refine Cd.own.pDrew ?_ | with_reducible refine Cd.own.pDrewN ?_ _ | ((with_reducible refine Cd.own.pSet ?_ ?_ _); rotate_left; (simp <;> omega)))) Ew3
        have O_cw' : (waitC).own (mid) (w2.heap.size) w3 [.slice wa ws.length wc] (ws) := Cd.own.ext (by repeat (first | with_reducible assumption | with_reducible refine Cd.own.pAlloc ?_ _ | with_reducible refine Cd.own.pDrew ?_ | with_reducible refine Cd.own.pDrewN ?_ _ | ((with_reducible refine Cd.own.pSet ?_ ?_ _); rotate_left; (simp <;> omega)))) Ew3
        clear c_d_0 c_d_1 n_d c_r_0 c_r_1 n_r f_r
        clear B_d
        have B_d := B_d'; clear B_d'
        clear B_r
        have B_r := B_r'; clear B_r'
        have B_o := B_o'; clear B_o'
        clear O_ck; have O_ck := O_ck'; clear O_ck'
        clear O_cw; have O_cw := O_cw'; clear O_cw'
        clear Ew3 Xw2
        have c_d_0 := B_d.cell 0 _ rfl
        have c_d_1 := B_d.cell 1 _ rfl
        have n_d := B_d.lt
        have c_r_0 := B_r.cell 0 _ rfl
        have c_r_1 := B_r.cell 1 _ rfl
        have n_r := B_r.lt
        have f_r := B_r.fr
        have c_o_0 := B_o.cell 0 _ rfl
        have c_o_1 := B_o.cell 1 _ rfl
        have n_o := B_o.lt
        have f_o := B_o.fr
        go_wp2_with fail
        refine (specRowOk_c _ row _ (rowC.vext HR.out (by repeat (first | with_reducible exact Ext.refl _ | with_reducible assumption | with_reducible refine Ext.pAlloc ?_ _ | ((with_reducible refine Ext.pSet ?_ ?_ _); rotate_left; (simp <;> omega)) | with_reducible refine Ext.pDrew ?_ | with_reducible refine Ext.pDrewN ?_ _)))).mono ?_
        rw [Hr.out]
        rintro e w9 ⟨rfl, rfl⟩
        go_wp2
        refine bodyPost_ret (v := .tuple #[.agg #[.slice ka rs.length kc, .slice wa ws.length wc], .bool false]) (by simp [results, Try.results65, go_sem, c_r_0, c_r_1]) rfl ⟨_, _, rfl, ?_, ?_⟩
        · repeat (first | with_reducible exact Ext.refl _ | with_reducible assumption | with_reducible refine Ext.pAlloc ?_ _ | ((with_reducible refine Ext.pSet ?_ ?_ _); rotate_left; (simp <;> omega)) | with_reducible refine Ext.pDrew ?_ | with_reducible refine Ext.pDrewN ?_ _)
        · exact Cd.own.wide (prod_own (c := [_]) (d := [_]) (mid := mid) (by repeat (first | with_reducible assumption | with_reducible refine Cd.own.pAlloc ?_ _ | with_reducible refine Cd.own.pDrew ?_ | with_reducible refine Cd.own.pDrewN ?_ _ | ((with_reducible refine Cd.own.pSet ?_ ?_ _); rotate_left; (simp <;> omega)))) (by repeat (first | with_reducible assumption | with_reducible refine Cd.own.pAlloc ?_ _ | with_reducible refine Cd.own.pDrew ?_ | with_reducible refine Cd.own.pDrewN ?_ _ | ((with_reducible refine Cd.own.pSet ?_ ?_ _); rotate_left; (simp <;> omega)))) hm1 hm2) (by first | omega | (simp <;> omega)) (by first | (simp [World.setCell]; done) | (simp [World.setCell]; omega))
      · by_cases hf : ws.length < 60
        rotate_left
        · have hr : wrote (rs, ws) n row = ((rs, ws), false) := by unfold wrote; rw [hd]; simp [hf]
          rw [hr]
          have hf60 : ws.length = 60 := by omega
          have hlq : ((ws.length : Int) == 60) = true := by rw [beq_iff_eq]; omega
          have hlg : decide ((60 : Int) ≤ ws.length) = true := by rw [decide_eq_true_iff]; omega
          have Hs := Lib.hid hs; have Hr := Lib.hid hrk; clear hs hrk hd hr hf60
          go_enter Try.func65, Try.ntmps65
          go_wp2_with fail
          refine (specDiskOk_c _ (rs, ws) _ (diskC.vext HD.out (by repeat (first | with_reducible exact Ext.refl _ | with_reducible assumption | with_reducible refine Ext.pAlloc ?_ _ | ((with_reducible refine Ext.pSet ?_ ?_ _); rotate_left; (simp <;> omega)) | with_reducible refine Ext.pDrew ?_ | with_reducible refine Ext.pDrewN ?_ _)))).mono ?_
          rw [Hd.out]
          rintro e w1 ⟨rfl, Ew1⟩
          have Xw1 : Ext w w1 := Ext.trans (by repeat (first | with_reducible exact Ext.refl _ | with_reducible assumption | with_reducible refine Ext.pAlloc ?_ _ | ((with_reducible refine Ext.pSet ?_ ?_ _); rotate_left; (simp <;> omega)) | with_reducible refine Ext.pDrew ?_ | with_reducible refine Ext.pDrewN ?_ _)) Ew1
          have zw1 : w.heap.size + 1 + 1 ≤ w1.heap.size := by have := Ew1.size; (try simp at this); omega
          have B_d' : Bx w1 w.heap.size [.slice a rs.length cap, .slice a' ws.length cap'] := Bx.ext (by repeat (first | with_reducible assumption | with_reducible exact Bx.new _ _ _ _ rfl | ((with_reducible refine Bx.new _ _ _ _ ?_); simp; done) | with_reducible refine Bx.pAlloc ?_ _ | with_reducible refine Bx.pDrew ?_ | with_reducible refine Bx.pDrewN ?_ _ | with_reducible apply Bx.set10 | with_reducible apply Bx.set20 | with_reducible apply Bx.set21 | with_reducible apply Bx.set30 | with_reducible apply Bx.set31 | with_reducible apply Bx.set32 | with_reducible apply Bx.set40 | with_reducible apply Bx.set41 | with_reducible apply Bx.set42 | with_reducible apply Bx.set43 | ((with_reducible refine Bx.set_other ?_ ?_ _); rotate_left; (simp <;> omega)))) Ew1
          have B_r' : Bx w1 (w.heap.size + 1) [.slice none 0 0, .slice none 0 0] := Bx.ext (by repeat (first | with_reducible assumption | with_reducible exact Bx.new _ _ _ _ rfl | ((with_reducible refine Bx.new _ _ _ _ ?_); simp; done) | with_reducible refine Bx.pAlloc ?_ _ | with_reducible refine Bx.pDrew ?_ | with_reducible refine Bx.pDrewN ?_ _ | with_reducible apply Bx.set10 | with_reducible apply Bx.set20 | with_reducible apply Bx.set21 | with_reducible apply Bx.set30 | with_reducible apply Bx.set31 | with_reducible apply Bx.set32 | with_reducible apply Bx.set40 | with_reducible apply Bx.set41 | with_reducible apply Bx.set42 | with_reducible apply Bx.set43 | ((with_reducible refine Bx.set_other ?_ ?_ _); rotate_left; (simp <;> omega)))) Ew1
          have B_d := B_d'; clear B_d'
          have B_r := B_r'; clear B_r'
          clear Ew1
          have c_d_0 := B_d.cell 0 _ rfl
          have c_d_1 := B_d.cell 1 _ rfl
          have n_d := B_d.lt
          have c_r_0 := B_r.cell 0 _ rfl
          have c_r_1 := B_r.cell 1 _ rfl
          have n_r := B_r.lt
          have f_r := B_r.fr
          go_wp2_with fail
          refine (l3Copy_c _ (rs, ws) _ (diskC.vext HD.out (by repeat (first | with_reducible exact Ext.refl _ | with_reducible assumption | with_reducible refine Ext.pAlloc ?_ _ | ((with_reducible refine Ext.pSet ?_ ?_ _); rotate_left; (simp <;> omega)) | with_reducible refine Ext.pDrew ?_ | with_reducible refine Ext.pDrewN ?_ _))) Hd.out).mono ?_
          rintro e w2 ⟨u1, v1, rfl, Ew2, mid, hm1, hm2, O_ck, O_cw⟩
          simp only at O_ck O_cw
          obtain ⟨ka, kc, rfl⟩ := sl_form O_ck.view
          obtain ⟨wa, wc, rfl⟩ := sl_form O_cw.view
          replace O_ck := O_ck.wide (lo' := w1.heap.size) (by first | omega | (simp <;> omega)) (Nat.le_refl _)
          replace hm1 : w1.heap.size ≤ mid := (by first | omega | (simp <;> omega))
          replace hm2 : mid ≤ w2.heap.size := hm2
          have Xw2 : Ext w w2 := Ext.trans (by repeat (first | with_reducible exact Ext.refl _ | with_reducible assumption | with_reducible refine Ext.pAlloc ?_ _ | ((with_reducible refine Ext.pSet ?_ ?_ _); rotate_left; (simp <;> omega)) | with_reducible refine Ext.pDrew ?_ | with_reducible refine Ext.pDrewN ?_ _)) Ew2
          have zw2 : w1.heap.size ≤ w2.heap.size := by have := Ew2.size; (try simp at this); omega
          have B_d' : Bx w2 w.heap.size [.slice a rs.length cap, .slice a' ws.length cap'] := Bx.ext (by repeat (first | with_reducible assumption | with_reducible exact Bx.new _ _ _ _ rfl | ((with_reducible refine Bx.new _ _ _ _ ?_); simp; done) | with_reducible refine Bx.pAlloc ?_ _ | with_reducible refine Bx.pDrew ?_ | with_reducible refine Bx.pDrewN ?_ _ | with_reducible apply Bx.set10 | with_reducible apply Bx.set20 | with_reducible apply Bx.set21 | with_reducible apply Bx.set30 | with_reducible apply Bx.set31 | with_reducible apply Bx.set32 | with_reducible apply Bx.set40 | with_reducible apply Bx.set41 | with_reducible apply Bx.set42 | with_reducible apply Bx.set43 | ((with_reducible refine Bx.set_other ?_ ?_ _); rotate_left; (simp <;> omega)))) Ew2
          have B_r' : Bx w2 (w.heap.size + 1) [.slice none 0 0, .slice none 0 0] := Bx.ext (by repeat (first | with_reducible assumption | with_reducible exact Bx.new _ _ _ _ rfl | ((with_reducible refine Bx.new _ _ _ _ ?_); simp; done) | with_reducible refine Bx.pAlloc ?_ _ | with_reducible refine Bx.pDrew ?_ | with_reducible refine Bx.pDrewN ?_ _ | with_reducible apply Bx.set10 | with_reducible apply Bx.set20 | with_reducible apply Bx.set21 | with_reducible apply Bx.set30 | with_reducible apply Bx.set31 | with_reducible apply Bx.set32 | with_reducible apply Bx.set40 | with_reducible apply Bx.set41 | with_reducible apply Bx.set42 | with_reducible apply Bx.set43 | ((with_reducible refine Bx.set_other ?_ ?_ _); rotate_left; (simp <;> omega)))) Ew2
          clear c_d_0 c_d_1 n_d c_r_0 c_r_1 n_r f_r
          clear B_d
          have B_d := B_d'; clear B_d'
          clear B_r
          have B_r := B_r'; clear B_r'
          clear Ew2 Xw1
          have c_d_0 := B_d.cell 0 _ rfl
          have c_d_1 := B_d.cell 1 _ rfl
          have n_d := B_d.lt
          have c_r_0 := B_r.cell 0 _ rfl
          have c_r_1 := B_r.cell 1 _ rfl
          have n_r := B_r.lt
          have f_r := B_r.fr
          go_wp2_with fail
          refine (l3Has_c _ (rs, ws) _ _ (diskC.vext HD.out (by repeat (first | with_reducible exact Ext.refl _ | with_reducible assumption | with_reducible refine Ext.pAlloc ?_ _ | ((with_reducible refine Ext.pSet ?_ ?_ _); rotate_left; (simp <;> omega)) | with_reducible refine Ext.pDrew ?_ | with_reducible refine Ext.pDrewN ?_ _)))).mono ?_
          dsimp only
          rw [Hs.out]
          rintro e w3 ⟨rfl, Ew3⟩
          have Xw3 : Ext w w3 := Ext.trans (by repeat (first | with_reducible exact Ext.refl _ | with_reducible assumption | with_reducible refine Ext.pAlloc ?_ _ | ((with_reducible refine Ext.pSet ?_ ?_ _); rotate_left; (simp <;> omega)) | with_reducible refine Ext.pDrew ?_ | with_reducible refine Ext.pDrewN ?_ _)) Ew3
          have zw3 : w2.heap.size + 1 ≤ w3.heap.size := by have := Ew3.size; (try simp at this); omega
          have B_d' : Bx w3 w.heap.size [.slice a rs.length cap, .slice a' ws.length cap'] := Bx.ext (by repeat (first | with_reducible assumption | with_reducible exact Bx.new _ _ _ _ rfl | ((with_reducible refine Bx.new _ _ _ _ ?_); simp; done) | with_reducible refine Bx.pAlloc ?_ _ | with_reducible refine Bx.pDrew ?_ | with_reducible refine Bx.pDrewN ?_ _ | with_reducible apply Bx.set10 | with_reducible apply Bx.set20 | with_reducible apply Bx.set21 | with_reducible apply Bx.set30 | with_reducible apply Bx.set31 | with_reducible apply Bx.set32 | with_reducible apply Bx.set40 | with_reducible apply Bx.set41 | with_reducible apply Bx.set42 | with_reducible apply Bx.set43 | ((with_reducible refine Bx.set_other ?_ ?_ _); rotate_left; (simp <;> omega)))) Ew3
          have B_r' : Bx w3 (w.heap.size + 1) [.slice none 0 0, .slice none 0 0] := Bx.ext (by repeat (first | with_reducible assumption | with_reducible exact Bx.new _ _ _ _ rfl | ((with_reducible refine Bx.new _ _ _ _ ?_); simp; done) | with_reducible refine Bx.pAlloc ?_ _ | with_reducible refine Bx.pDrew ?_ | with_reducible refine Bx.pDrewN ?_ _ | with_reducible apply Bx.set10 | with_reducible apply Bx.set20 | with_reducible apply Bx.set21 | with_reducible apply Bx.set30 | with_reducible apply Bx.set31 | with_reducible apply Bx.set32 | with_reducible apply Bx.set40 | with_reducible apply Bx.set41 | with_reducible apply Bx.set42 | with_reducible apply Bx.set43 | ((with_reducible refine Bx.set_other ?_ ?_ _); rotate_left; (simp <;> omega)))) Ew3
          have B_o' : Bx w3 w2.heap.size [.slice ka rs.length kc, .slice wa ws.length wc] := Bx.ext (by repeat (first | with_reducible assumption | with_reducible exact Bx.new _ _ _ _ rfl | ((with_reducible refine Bx.new _ _ _ _ ?_); simp; done) | with_reducible refine Bx.pAlloc ?_ _ | with_reducible refine Bx.pDrew ?_ | with_reducible refine Bx.pDrewN ?_ _ | with_reducible apply Bx.set10 | with_reducible apply Bx.set20 | with_reducible apply Bx.set21 | with_reducible apply Bx.set30 | with_reducible apply Bx.set31 | with_reducible apply Bx.set32 | with_reducible apply Bx.set40 | with_reducible apply Bx.set41 | with_reducible apply Bx.set42 | with_reducible apply Bx.set43 | ((with_reducible refine Bx.set_other ?_ ?_ _); rotate_left; (simp <;> omega)))) Ew3
          have O_ck' : (rowsC).own (w1.heap.size) (mid) w3 [.slice ka rs.length kc] (rs) := Cd.own.ext (by repeat (first | with_reducible assumption | with_reducible refine Cd.own.pAlloc ?_ _ | with_reducible refine Cd.own.pDrew ?_ | with_reducible refine Cd.own.pDrewN ?_ _ | ((with_reducible refine Cd.own.pSet ?_ ?_ _); rotate_left; (simp <;> omega)))) Ew3
          have O_cw' : (waitC).own (mid) (w2.heap.size) w3 [.slice wa ws.length wc] (ws) := Cd.own.ext (by repeat (first | with_reducible assumption | with_reducible refine Cd.own.pAlloc ?_ _ | with_reducible refine Cd.own.pDrew ?_ | with_reducible refine Cd.own.pDrewN ?_ _ | ((with_reducible refine Cd.own.pSet ?_ ?_ _); rotate_left; (simp <;> omega)))) Ew3
          clear c_d_0 c_d_1 n_d c_r_0 c_r_1 n_r f_r
          clear B_d
          have B_d := B_d'; clear B_d'
          clear B_r
          have B_r := B_r'; clear B_r'
          have B_o := B_o'; clear B_o'
          clear O_ck; have O_ck := O_ck'; clear O_ck'
          clear O_cw; have O_cw := O_cw'; clear O_cw'
          clear Ew3 Xw2
          have c_d_0 := B_d.cell 0 _ rfl
          have c_d_1 := B_d.cell 1 _ rfl
          have n_d := B_d.lt
          have c_r_0 := B_r.cell 0 _ rfl
          have c_r_1 := B_r.cell 1 _ rfl
          have n_r := B_r.lt
          have f_r := B_r.fr
          have c_o_0 := B_o.cell 0 _ rfl
          have c_o_1 := B_o.cell 1 _ rfl
          have n_o := B_o.lt
          have f_o := B_o.fr
          go_wp2_with fail
          refine (specRowOk_c _ row _ (rowC.vext HR.out (by repeat (first | with_reducible exact Ext.refl _ | with_reducible assumption | with_reducible refine Ext.pAlloc ?_ _ | ((with_reducible refine Ext.pSet ?_ ?_ _); rotate_left; (simp <;> omega)) | with_reducible refine Ext.pDrew ?_ | with_reducible refine Ext.pDrewN ?_ _)))).mono ?_
          rw [Hr.out]
          rintro e w9 ⟨rfl, rfl⟩
          go_wp2
          refine bodyPost_ret (v := .tuple #[.agg #[.slice ka rs.length kc, .slice wa ws.length wc], .bool false]) (by simp [results, Try.results65, go_sem, c_r_0, c_r_1]) rfl ⟨_, _, rfl, ?_, ?_⟩
          · repeat (first | with_reducible exact Ext.refl _ | with_reducible assumption | with_reducible refine Ext.pAlloc ?_ _ | ((with_reducible refine Ext.pSet ?_ ?_ _); rotate_left; (simp <;> omega)) | with_reducible refine Ext.pDrew ?_ | with_reducible refine Ext.pDrewN ?_ _)
          · exact Cd.own.wide (prod_own (c := [_]) (d := [_]) (mid := mid) (by repeat (first | with_reducible assumption | with_reducible refine Cd.own.pAlloc ?_ _ | with_reducible refine Cd.own.pDrew ?_ | with_reducible refine Cd.own.pDrewN ?_ _ | ((with_reducible refine Cd.own.pSet ?_ ?_ _); rotate_left; (simp <;> omega)))) (by repeat (first | with_reducible assumption | with_reducible refine Cd.own.pAlloc ?_ _ | with_reducible refine Cd.own.pDrew ?_ | with_reducible refine Cd.own.pDrewN ?_ _ | ((with_reducible refine Cd.own.pSet ?_ ?_ _); rotate_left; (simp <;> omega)))) hm1 hm2) (by first | omega | (simp <;> omega)) (by first | (simp [World.setCell]; done) | (simp [World.setCell]; omega))
        · have hr : wrote (rs, ws) n row = ((rs, ws ++ [(n, row)]), true) := by unfold wrote; rw [hd]; simp [hs, hrk, hf]
          rw [hr]
          have hlen := rowOk_len hrk
          have hlq : ((ws.length : Int) == 60) = false := by rw [beq_eq_false_iff_ne]; omega
          have hlg : decide ((60 : Int) ≤ ws.length) = false := by rw [decide_eq_false_iff_not]; omega
          have Hs := Lib.hid hs; have Hr := Lib.hid hrk; clear hs hrk hd hr
          go_enter Try.func65, Try.ntmps65
          go_wp2_with fail
          refine (specDiskOk_c _ (rs, ws) _ (diskC.vext HD.out (by repeat (first | with_reducible exact Ext.refl _ | with_reducible assumption | with_reducible refine Ext.pAlloc ?_ _ | ((with_reducible refine Ext.pSet ?_ ?_ _); rotate_left; (simp <;> omega)) | with_reducible refine Ext.pDrew ?_ | with_reducible refine Ext.pDrewN ?_ _)))).mono ?_
          rw [Hd.out]
          rintro e w1 ⟨rfl, Ew1⟩
          have Xw1 : Ext w w1 := Ext.trans (by repeat (first | with_reducible exact Ext.refl _ | with_reducible assumption | with_reducible refine Ext.pAlloc ?_ _ | ((with_reducible refine Ext.pSet ?_ ?_ _); rotate_left; (simp <;> omega)) | with_reducible refine Ext.pDrew ?_ | with_reducible refine Ext.pDrewN ?_ _)) Ew1
          have zw1 : w.heap.size + 1 + 1 ≤ w1.heap.size := by have := Ew1.size; (try simp at this); omega
          have B_d' : Bx w1 w.heap.size [.slice a rs.length cap, .slice a' ws.length cap'] := Bx.ext (by repeat (first | with_reducible assumption | with_reducible exact Bx.new _ _ _ _ rfl | ((with_reducible refine Bx.new _ _ _ _ ?_); simp; done) | with_reducible refine Bx.pAlloc ?_ _ | with_reducible refine Bx.pDrew ?_ | with_reducible refine Bx.pDrewN ?_ _ | with_reducible apply Bx.set10 | with_reducible apply Bx.set20 | with_reducible apply Bx.set21 | with_reducible apply Bx.set30 | with_reducible apply Bx.set31 | with_reducible apply Bx.set32 | with_reducible apply Bx.set40 | with_reducible apply Bx.set41 | with_reducible apply Bx.set42 | with_reducible apply Bx.set43 | ((with_reducible refine Bx.set_other ?_ ?_ _); rotate_left; (simp <;> omega)))) Ew1
          have B_r' : Bx w1 (w.heap.size + 1) [.slice none 0 0, .slice none 0 0] := Bx.ext (by repeat (first | with_reducible assumption | with_reducible exact Bx.new _ _ _ _ rfl | ((with_reducible refine Bx.new _ _ _ _ ?_); simp; done) | with_reducible refine Bx.pAlloc ?_ _ | with_reducible refine Bx.pDrew ?_ | with_reducible refine Bx.pDrewN ?_ _ | with_reducible apply Bx.set10 | with_reducible apply Bx.set20 | with_reducible apply Bx.set21 | with_reducible apply Bx.set30 | with_reducible apply Bx.set31 | with_reducible apply Bx.set32 | with_reducible apply Bx.set40 | with_reducible apply Bx.set41 | with_reducible apply Bx.set42 | with_reducible apply Bx.set43 | ((with_reducible refine Bx.set_other ?_ ?_ _); rotate_left; (simp <;> omega)))) Ew1
          have B_d := B_d'; clear B_d'
          have B_r := B_r'; clear B_r'
          clear Ew1
          have c_d_0 := B_d.cell 0 _ rfl
          have c_d_1 := B_d.cell 1 _ rfl
          have n_d := B_d.lt
          have c_r_0 := B_r.cell 0 _ rfl
          have c_r_1 := B_r.cell 1 _ rfl
          have n_r := B_r.lt
          have f_r := B_r.fr
          go_wp2_with fail
          refine (l3Copy_c _ (rs, ws) _ (diskC.vext HD.out (by repeat (first | with_reducible exact Ext.refl _ | with_reducible assumption | with_reducible refine Ext.pAlloc ?_ _ | ((with_reducible refine Ext.pSet ?_ ?_ _); rotate_left; (simp <;> omega)) | with_reducible refine Ext.pDrew ?_ | with_reducible refine Ext.pDrewN ?_ _))) Hd.out).mono ?_
          rintro e w2 ⟨u1, v1, rfl, Ew2, mid, hm1, hm2, O_ck, O_cw⟩
          simp only at O_ck O_cw
          obtain ⟨ka, kc, rfl⟩ := sl_form O_ck.view
          obtain ⟨wa, wc, rfl⟩ := sl_form O_cw.view
          replace O_ck := O_ck.wide (lo' := w1.heap.size) (by first | omega | (simp <;> omega)) (Nat.le_refl _)
          replace hm1 : w1.heap.size ≤ mid := (by first | omega | (simp <;> omega))
          replace hm2 : mid ≤ w2.heap.size := hm2
          have Xw2 : Ext w w2 := Ext.trans (by repeat (first | with_reducible exact Ext.refl _ | with_reducible assumption | with_reducible refine Ext.pAlloc ?_ _ | ((with_reducible refine Ext.pSet ?_ ?_ _); rotate_left; (simp <;> omega)) | with_reducible refine Ext.pDrew ?_ | with_reducible refine Ext.pDrewN ?_ _)) Ew2
          have zw2 : w1.heap.size ≤ w2.heap.size := by have := Ew2.size; (try simp at this); omega
          have B_d' : Bx w2 w.heap.size [.slice a rs.length cap, .slice a' ws.length cap'] := Bx.ext (by repeat (first | with_reducible assumption | with_reducible exact Bx.new _ _ _ _ rfl | ((with_reducible refine Bx.new _ _ _ _ ?_); simp; done) | with_reducible refine Bx.pAlloc ?_ _ | with_reducible refine Bx.pDrew ?_ | with_reducible refine Bx.pDrewN ?_ _ | with_reducible apply Bx.set10 | with_reducible apply Bx.set20 | with_reducible apply Bx.set21 | with_reducible apply Bx.set30 | with_reducible apply Bx.set31 | with_reducible apply Bx.set32 | with_reducible apply Bx.set40 | with_reducible apply Bx.set41 | with_reducible apply Bx.set42 | with_reducible apply Bx.set43 | ((with_reducible refine Bx.set_other ?_ ?_ _); rotate_left; (simp <;> omega)))) Ew2
          have B_r' : Bx w2 (w.heap.size + 1) [.slice none 0 0, .slice none 0 0] := Bx.ext (by repeat (first | with_reducible assumption | with_reducible exact Bx.new _ _ _ _ rfl | ((with_reducible refine Bx.new _ _ _ _ ?_); simp; done) | with_reducible refine Bx.pAlloc ?_ _ | with_reducible refine Bx.pDrew ?_ | with_reducible refine Bx.pDrewN ?_ _ | with_reducible apply Bx.set10 | with_reducible apply Bx.set20 | with_reducible apply Bx.set21 | with_reducible apply Bx.set30 | with_reducible apply Bx.set31 | with_reducible apply Bx.set32 | with_reducible apply Bx.set40 | with_reducible apply Bx.set41 | with_reducible apply Bx.set42 | with_reducible apply Bx.set43 | ((with_reducible refine Bx.set_other ?_ ?_ _); rotate_left; (simp <;> omega)))) Ew2
          clear c_d_0 c_d_1 n_d c_r_0 c_r_1 n_r f_r
          clear B_d
          have B_d := B_d'; clear B_d'
          clear B_r
          have B_r := B_r'; clear B_r'
          clear Ew2 Xw1
          have c_d_0 := B_d.cell 0 _ rfl
          have c_d_1 := B_d.cell 1 _ rfl
          have n_d := B_d.lt
          have c_r_0 := B_r.cell 0 _ rfl
          have c_r_1 := B_r.cell 1 _ rfl
          have n_r := B_r.lt
          have f_r := B_r.fr
          go_wp2_with fail
          refine (l3Has_c _ (rs, ws) _ _ (diskC.vext HD.out (by repeat (first | with_reducible exact Ext.refl _ | with_reducible assumption | with_reducible refine Ext.pAlloc ?_ _ | ((with_reducible refine Ext.pSet ?_ ?_ _); rotate_left; (simp <;> omega)) | with_reducible refine Ext.pDrew ?_ | with_reducible refine Ext.pDrewN ?_ _)))).mono ?_
          dsimp only
          rw [Hs.out]
          rintro e w3 ⟨rfl, Ew3⟩
          have Xw3 : Ext w w3 := Ext.trans (by repeat (first | with_reducible exact Ext.refl _ | with_reducible assumption | with_reducible refine Ext.pAlloc ?_ _ | ((with_reducible refine Ext.pSet ?_ ?_ _); rotate_left; (simp <;> omega)) | with_reducible refine Ext.pDrew ?_ | with_reducible refine Ext.pDrewN ?_ _)) Ew3
          have zw3 : w2.heap.size + 1 ≤ w3.heap.size := by have := Ew3.size; (try simp at this); omega
          have B_d' : Bx w3 w.heap.size [.slice a rs.length cap, .slice a' ws.length cap'] := Bx.ext (by repeat (first | with_reducible assumption | with_reducible exact Bx.new _ _ _ _ rfl | ((with_reducible refine Bx.new _ _ _ _ ?_); simp; done) | with_reducible refine Bx.pAlloc ?_ _ | with_reducible refine Bx.pDrew ?_ | with_reducible refine Bx.pDrewN ?_ _ | with_reducible apply Bx.set10 | with_reducible apply Bx.set20 | with_reducible apply Bx.set21 | with_reducible apply Bx.set30 | with_reducible apply Bx.set31 | with_reducible apply Bx.set32 | with_reducible apply Bx.set40 | with_reducible apply Bx.set41 | with_reducible apply Bx.set42 | with_reducible apply Bx.set43 | ((with_reducible refine Bx.set_other ?_ ?_ _); rotate_left; (simp <;> omega)))) Ew3
          have B_r' : Bx w3 (w.heap.size + 1) [.slice none 0 0, .slice none 0 0] := Bx.ext (by repeat (first | with_reducible assumption | with_reducible exact Bx.new _ _ _ _ rfl | ((with_reducible refine Bx.new _ _ _ _ ?_); simp; done) | with_reducible refine Bx.pAlloc ?_ _ | with_reducible refine Bx.pDrew ?_ | with_reducible refine Bx.pDrewN ?_ _ | with_reducible apply Bx.set10 | with_reducible apply Bx.set20 | with_reducible apply Bx.set21 | with_reducible apply Bx.set30 | with_reducible apply Bx.set31 | with_reducible apply Bx.set32 | with_reducible apply Bx.set40 | with_reducible apply Bx.set41 | with_reducible apply Bx.set42 | with_reducible apply Bx.set43 | ((with_reducible refine Bx.set_other ?_ ?_ _); rotate_left; (simp <;> omega)))) Ew3
          have B_o' : Bx w3 w2.heap.size [.slice ka rs.length kc, .slice wa ws.length wc] := Bx.ext (by repeat (first | with_reducible assumption | with_reducible exact Bx.new _ _ _ _ rfl | ((with_reducible refine Bx.new _ _ _ _ ?_); simp; done) | with_reducible refine Bx.pAlloc ?_ _ | with_reducible refine Bx.pDrew ?_ | with_reducible refine Bx.pDrewN ?_ _ | with_reducible apply Bx.set10 | with_reducible apply Bx.set20 | with_reducible apply Bx.set21 | with_reducible apply Bx.set30 | with_reducible apply Bx.set31 | with_reducible apply Bx.set32 | with_reducible apply Bx.set40 | with_reducible apply Bx.set41 | with_reducible apply Bx.set42 | with_reducible apply Bx.set43 | ((with_reducible refine Bx.set_other ?_ ?_ _); rotate_left; (simp <;> omega)))) Ew3
          have O_ck' : (rowsC).own (w1.heap.size) (mid) w3 [.slice ka rs.length kc] (rs) := Cd.own.ext (by repeat (first | with_reducible assumption | with_reducible refine Cd.own.pAlloc ?_ _ | with_reducible refine Cd.own.pDrew ?_ | with_reducible refine Cd.own.pDrewN ?_ _ | ((with_reducible refine Cd.own.pSet ?_ ?_ _); rotate_left; (simp <;> omega)))) Ew3
          have O_cw' : (waitC).own (mid) (w2.heap.size) w3 [.slice wa ws.length wc] (ws) := Cd.own.ext (by repeat (first | with_reducible assumption | with_reducible refine Cd.own.pAlloc ?_ _ | with_reducible refine Cd.own.pDrew ?_ | with_reducible refine Cd.own.pDrewN ?_ _ | ((with_reducible refine Cd.own.pSet ?_ ?_ _); rotate_left; (simp <;> omega)))) Ew3
          clear c_d_0 c_d_1 n_d c_r_0 c_r_1 n_r f_r
          clear B_d
          have B_d := B_d'; clear B_d'
          clear B_r
          have B_r := B_r'; clear B_r'
          have B_o := B_o'; clear B_o'
          clear O_ck; have O_ck := O_ck'; clear O_ck'
          clear O_cw; have O_cw := O_cw'; clear O_cw'
          clear Ew3 Xw2
          have c_d_0 := B_d.cell 0 _ rfl
          have c_d_1 := B_d.cell 1 _ rfl
          have n_d := B_d.lt
          have c_r_0 := B_r.cell 0 _ rfl
          have c_r_1 := B_r.cell 1 _ rfl
          have n_r := B_r.lt
          have f_r := B_r.fr
          have c_o_0 := B_o.cell 0 _ rfl
          have c_o_1 := B_o.cell 1 _ rfl
          have n_o := B_o.lt
          have f_o := B_o.fr
          go_wp2_with fail
          refine (specRowOk_c _ row _ (rowC.vext HR.out (by repeat (first | with_reducible exact Ext.refl _ | with_reducible assumption | with_reducible refine Ext.pAlloc ?_ _ | ((with_reducible refine Ext.pSet ?_ ?_ _); rotate_left; (simp <;> omega)) | with_reducible refine Ext.pDrew ?_ | with_reducible refine Ext.pDrewN ?_ _)))).mono ?_
          rw [Hr.out]
          rintro e w9 ⟨rfl, rfl⟩
          go_wp2
          refine wp_region_T (S := fun ω => ω.cell? ⟨w2.heap.size, 1, none⟩ = some (.slice wa ws.length wc) ∧ Bx ω (w.heap.size) [.slice a rs.length cap, .slice a' ws.length cap'] ∧ Bx ω (w.heap.size + 1) [.slice none 0 0, .slice none 0 0] ∧ Bx ω (w2.heap.size) [.slice ka rs.length kc, .slice wa ws.length wc] ∧ Ext w ω) 9 (by kernel_rfl) ?_ (fun hHeld => ?_) (by decide)
          · (try dsimp only); (refine ⟨?_, ?_, ?_, ?_, ?_⟩ <;> first | (simp [go_sem]; done) | (simp [*, go_sem]; done) | ((repeat (first | with_reducible assumption | with_reducible exact Bx.new _ _ _ _ rfl | ((with_reducible refine Bx.new _ _ _ _ ?_); simp; done) | with_reducible refine Bx.pAlloc ?_ _ | with_reducible refine Bx.pDrew ?_ | with_reducible refine Bx.pDrewN ?_ _ | with_reducible apply Bx.set10 | with_reducible apply Bx.set20 | with_reducible apply Bx.set21 | with_reducible apply Bx.set30 | with_reducible apply Bx.set31 | with_reducible apply Bx.set32 | with_reducible apply Bx.set40 | with_reducible apply Bx.set41 | with_reducible apply Bx.set42 | with_reducible apply Bx.set43 | ((with_reducible refine Bx.set_other ?_ ?_ _); rotate_left; (simp <;> omega)))); done) | ((repeat (first | with_reducible exact Ext.refl _ | with_reducible assumption | with_reducible refine Ext.pAlloc ?_ _ | ((with_reducible refine Ext.pSet ?_ ?_ _); rotate_left; (simp <;> omega)) | with_reducible refine Ext.pDrew ?_ | with_reducible refine Ext.pDrewN ?_ _)); done))
          refine wpT_take (i := 0) (v := ?_) rfl (by kernel_rfl) (by decide) (by kernel_rfl) (by kernel_rfl) (by kernel_rfl) (fun _ _ _ h => h) (Or.inl ⟨by rfl, ?_⟩) (by assumption) ?_
          rotate_left
          · intro w9 hSw; (try dsimp only at hSw); go_simp; (first | done | with_reducible rfl)
          (try simp only [List.getElem_toArray, List.getElem_cons_succ, List.getElem_cons_zero, Act.put, List.setIfInBounds_toArray, List.set_cons_zero, List.set_cons_succ])
          refine wpT_take (i := 1) (v := ?_) rfl (by kernel_rfl) (by decide) (by kernel_rfl) (by kernel_rfl) (by kernel_rfl) (fun _ _ _ h => h) (Or.inl ⟨by rfl, ?_⟩) (by assumption) ?_
          rotate_left
          · intro w9 hSw; (try dsimp only at hSw); go_simp; (first | done | with_reducible rfl)
          (try simp only [List.getElem_toArray, List.getElem_cons_succ, List.getElem_cons_zero, Act.put, List.setIfInBounds_toArray, List.set_cons_zero, List.set_cons_succ])
          refine wpT_take (i := 2) (v := ?_) rfl (by kernel_rfl) (by decide) (by kernel_rfl) (by kernel_rfl) (by kernel_rfl) (fun _ _ _ h => h) (Or.inl ⟨by rfl, ?_⟩) (by assumption) ?_
          rotate_left
          · intro w9 hSw; (try dsimp only at hSw); go_simp; (first | done | with_reducible rfl)
          (try simp only [List.getElem_toArray, List.getElem_cons_succ, List.getElem_cons_zero, Act.put, List.setIfInBounds_toArray, List.set_cons_zero, List.set_cons_succ])
          refine wpT_take (i := 3) (v := ?_) rfl (by kernel_rfl) (by decide) (by kernel_rfl) (by kernel_rfl) (by kernel_rfl) (fun _ _ _ h => h) (Or.inl ⟨by rfl, ?_⟩) (by assumption) ?_
          rotate_left
          · intro w9 hSw; (try dsimp only at hSw); go_simp; (first | done | with_reducible rfl)
          (try simp only [List.getElem_toArray, List.getElem_cons_succ, List.getElem_cons_zero, Act.put, List.setIfInBounds_toArray, List.set_cons_zero, List.set_cons_succ])
          refine wpT_step (i := 4) (by kernel_rfl) (by decide) rfl (fun K hK => ?_)
          go_simp
          refine (l1Copy_c _ row _ (rowC.vext HR.out hHeld.2.2.2.2) (by omega)).mono ?_
          rintro e w12 ⟨u2, rfl, hE2, hO2⟩
          have hEw : Ext w3 w12 := Ext.trans (by repeat (first | with_reducible exact Ext.refl _ | with_reducible assumption | with_reducible refine Ext.pAlloc ?_ _ | ((with_reducible refine Ext.pSet ?_ ?_ _); rotate_left; (simp <;> omega)) | with_reducible refine Ext.pDrew ?_ | with_reducible refine Ext.pDrewN ?_ _)) hE2
          obtain ⟨ua2, uc2, rfl⟩ := u_slice hO2.view
          have hz2 := hEw.size
          replace hO2 := hO2.wide (lo' := w3.heap.size) (by first | omega | (simp <;> omega)) (Nat.le_refl _)
          (try go_wp2_with fail)
          refine hK.out _ _ ?_ (fun hHeld2 => ?_)
          · (try dsimp only); (obtain ⟨s0, s1, s2, s3, s4⟩ := hHeld; exact ⟨cell_ext s0 hE2, Bx.ext s1 hE2, Bx.ext s2 hE2, Bx.ext s3 hE2, s4.trans hE2⟩)
          clear hK K hHeld
          rename _ => hHeld
          (try simp only [List.getElem_toArray, List.getElem_cons_succ, List.getElem_cons_zero, Act.put, List.setIfInBounds_toArray, List.set_cons_zero, List.set_cons_succ])
          refine wpT_take (i := 5) (v := ?_) rfl (by kernel_rfl) (by decide) (by kernel_rfl) (by kernel_rfl) (by kernel_rfl) (fun _ _ _ h => h) (Or.inl ⟨by rfl, ?_⟩) (by assumption) ?_
          rotate_left
          · intro w9 hSw; (try dsimp only at hSw); go_simp; (first | done | with_reducible rfl)
          (try simp only [List.getElem_toArray, List.getElem_cons_succ, List.getElem_cons_zero, Act.put, List.setIfInBounds_toArray, List.set_cons_zero, List.set_cons_succ])
          refine wpT_step (i := 6) (by kernel_rfl) (by decide) rfl (fun K hK => ?_)
          go_simp
          refine hK.out _ _ ?_ (fun hHeld2 => ?_)
          · (try dsimp only); (obtain ⟨s0, s1, s2, s3, s4⟩ := hHeld; exact ⟨cell_ext s0 (Ext.alloc _ _), Bx.ext s1 (Ext.alloc _ _), Bx.ext s2 (Ext.alloc _ _), Bx.ext s3 (Ext.alloc _ _), s4.trans (Ext.alloc _ _)⟩)
          clear hK K hHeld
          rename _ => hHeld
          (try simp only [List.getElem_toArray, List.getElem_cons_succ, List.getElem_cons_zero, Act.put, List.setIfInBounds_toArray, List.set_cons_zero, List.set_cons_succ])
          refine wpT_step (i := 7) (by kernel_rfl) (by decide) rfl (fun K hK => ?_)
          rw [if_pos (by rfl)]
          refine opwp_snoc2 (R := writeC) (y := (n, row)) (lo' := w3.heap.size) (hi' := w12.heap.size) _ _ _ (by rfl) 59 _ 32 Try.underlying30 Hinf.out (by rfl) (O_cw.ext (hEw.trans (Ext.alloc _ _))) (by rfl) (write_own.2 ⟨_, rfl, hO2.ext (Ext.alloc _ _)⟩) (by first | omega | (simp <;> omega)) (by first | omega | (simp <;> omega)) _ _ (by rfl) (CellsAt.lit _ _ _) (by omega) ?_
          rintro v4 w4 ⟨a4, c4, rfl⟩ hO4 hC4
          have O_ck4 := (O_ck.ext (hEw.trans (Ext.alloc _ _))).chg hC4 (by omega)
          have z4 : w12.heap.size + 1 ≤ w4.heap.size := by have := hC4.size; (try simp at this); omega
          refine hK.out _ _ ?_ (fun hHeld2 => ?_)
          · (try dsimp only); (obtain ⟨s0, s1, s2, s3, s4⟩ := hHeld; exact ⟨cell_chg s0 hC4 (by omega), Bx.chg s1 hC4 (by omega), Bx.chg s2 hC4 (by omega), Bx.chg s3 hC4 (by omega), Chg.ext s4 hC4 (by omega)⟩)
          clear hK K hHeld
          rename _ => hHeld
          (try simp only [List.getElem_toArray, List.getElem_cons_succ, List.getElem_cons_zero, Act.put, List.setIfInBounds_toArray, List.set_cons_zero, List.set_cons_succ])
          refine wpT_take (i := 8) (v := ?_) rfl (by kernel_rfl) (by decide) (by kernel_rfl) (by kernel_rfl) (by kernel_rfl) (fun _ _ _ h => h) (Or.inl ⟨by rfl, ?_⟩) (by assumption) ?_
          rotate_left
          · intro w9 hSw; (try dsimp only at hSw); go_simp; (first | done | with_reducible rfl)
          (try simp only [List.getElem_toArray, List.getElem_cons_succ, List.getElem_cons_zero, Act.put, List.setIfInBounds_toArray, List.set_cons_zero, List.set_cons_succ])
          refine wpT_last (by kernel_rfl) (by kernel_rfl) rfl (fun K hK => ?_)
          obtain ⟨e0, e1, e2, e3, e4⟩ := hHeld
          clear c_d_0 c_d_1 n_d c_r_0 c_r_1 n_r f_r c_o_0 c_o_1 n_o f_o e0
          have c0 := e3.cell 0 _ rfl; have c1 := e3.cell 1 _ rfl; have f3 := e3.fr; have n3 := e3.lt; have c_r_0 := e2.cell 0 _ rfl; have c_r_1 := e2.cell 1 _ rfl; have f_r := e2.fr; have n_r := e2.lt
          go_simp
          refine hK.out _ _ ?_
          clear hK K
          go_wp2
          refine bodyPost_ret (v := .tuple #[.agg #[.slice ka rs.length kc, .slice a4 (ws.length + 1) c4], .bool true]) (by simp [results, Try.results65, go_sem, c_r_0, c_r_1]) rfl ⟨_, _, rfl, ?_, ?_⟩
          · repeat (first | with_reducible exact Ext.refl _ | with_reducible assumption | with_reducible refine Ext.pAlloc ?_ _ | ((with_reducible refine Ext.pSet ?_ ?_ _); rotate_left; (simp <;> omega)) | with_reducible refine Ext.pDrew ?_ | with_reducible refine Ext.pDrewN ?_ _)
          · exact Cd.own.wide (prod_own (c := [_]) (d := [_]) (mid := mid) (hi := w4.heap.size) (by repeat (first | with_reducible assumption | with_reducible refine Cd.own.pAlloc ?_ _ | with_reducible refine Cd.own.pDrew ?_ | with_reducible refine Cd.own.pDrewN ?_ _ | ((with_reducible refine Cd.own.pSet ?_ ?_ _); rotate_left; (simp <;> omega)))) (Cd.own2.own (R := waitC) (hi := w2.heap.size) (lo2 := w3.heap.size) (by repeat (first | with_reducible assumption | ((with_reducible refine Cd.own2.set ?_ ?_ _); rotate_left; (simp <;> omega)))) (by first | omega | (simp <;> omega)) (by first | omega | (simp <;> omega))) hm1 (by first | omega | (simp <;> omega))) (by first | omega | (simp <;> omega)) (by first | (simp [World.setCell]; done) | (simp [World.setCell]; omega))

end Go.Proofs.Ytbapomhoipdanaa
