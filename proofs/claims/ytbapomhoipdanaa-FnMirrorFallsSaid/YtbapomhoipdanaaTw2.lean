/- Two disks: copies, sync, writes, mending. -/
import Derived.Test.YtbapomhoipdanaaTwP
set_option linter.unusedVariables false
set_option linter.unusedSimpArgs false
namespace Go.Proofs.Ytbapomhoipdanaa
open Go.RowKit Go.Sl

set_option maxHeartbeats 3200000 in
set_option maxRecDepth 20000 in
theorem copyTwo_c (cs : List Value) (m : TwoD) (w : World) (h : twoC.V w cs m) (hok : diskOk m.1 = true ∧ diskOk m.2 = true) :
    Calls Try.prog 68 #[.agg cs.toArray] w fun e w' => ∃ u v u' v', e = .returned (.agg #[u, v, u', v']) ∧ Ext w w' ∧ twoC.own w.heap.size w'.heap.size w' [u, v, u', v'] m := by
  obtain ⟨u, v, u', v', rfl, hu, hv⟩ := two_V.1 h
  have HT := Lib.hid h
  obtain ⟨d, d'⟩ := m
  simp only at hu hv
  obtain ⟨⟨ua, uc, rfl⟩, va, vc, rfl⟩ := disk_forms hu
  obtain ⟨⟨ua', uc', rfl⟩, va', vc', rfl⟩ := disk_forms hv
  have H := Lib.hid (And.intro hu hv); clear hu hv h
  have Hok := Lib.hid hok; clear hok
  go_enter Try.func68, Try.ntmps68
  go_wp2
  refine wp_region_T (S := fun ω => ω.cell? ⟨w.heap.size, 0, none⟩ = some (.slice ua d.1.length uc) ∧ ω.cell? ⟨w.heap.size, 1, none⟩ = some (.slice va d.2.length vc) ∧ ω.cell? ⟨w.heap.size, 2, none⟩ = some (.slice ua' d'.1.length uc') ∧ ω.cell? ⟨w.heap.size, 3, none⟩ = some (.slice va' d'.2.length vc') ∧ Bx ω (w.heap.size) [.slice ua d.1.length uc, .slice va d.2.length vc, .slice ua' d'.1.length uc', .slice va' d'.2.length vc'] ∧ Bx ω (w.heap.size + 1) [.slice none 0 0, .slice none 0 0, .slice none 0 0, .slice none 0 0] ∧ Ext w ω) 7 (by kernel_rfl) ?_ (fun hHeld => ?_) (by decide)
  · (try dsimp only); (refine ⟨?_, ?_, ?_, ?_, ?_, ?_, ?_⟩ <;> first | (simp [go_sem]; done) | (simp [*, go_sem]; done) | ((repeat (first | with_reducible assumption | with_reducible exact Bx.new _ _ _ _ rfl | ((with_reducible refine Bx.new _ _ _ _ ?_); simp; done) | with_reducible refine Bx.pAlloc ?_ _ | with_reducible refine Bx.pDrew ?_ | with_reducible refine Bx.pDrewN ?_ _ | with_reducible apply Bx.set10 | with_reducible apply Bx.set20 | with_reducible apply Bx.set21 | with_reducible apply Bx.set30 | with_reducible apply Bx.set31 | with_reducible apply Bx.set32 | with_reducible apply Bx.set40 | with_reducible apply Bx.set41 | with_reducible apply Bx.set42 | with_reducible apply Bx.set43 | ((with_reducible refine Bx.set_other ?_ ?_ _); rotate_left; (simp <;> omega)))); done) | ((repeat (first | with_reducible exact Ext.refl _ | with_reducible assumption | with_reducible refine Ext.pAlloc ?_ _ | ((with_reducible refine Ext.pSet ?_ ?_ _); rotate_left; (simp <;> omega)) | with_reducible refine Ext.pDrew ?_ | with_reducible refine Ext.pDrewN ?_ _)); done))
  refine wpT_take (i := 0) (v := ?_) rfl (by kernel_rfl) (by decide) (by kernel_rfl) (by kernel_rfl) (by kernel_rfl) (fun _ _ _ h => h) (Or.inl ⟨by rfl, ?_⟩) (by assumption) ?_
  rotate_left
  · intro w9 hSw; (try dsimp only at hSw); go_simp; (first | done | with_reducible rfl)
  (try simp only [List.getElem_toArray, List.getElem_cons_succ, List.getElem_cons_zero, Act.put, List.setIfInBounds_toArray, List.set_cons_zero, List.set_cons_succ])
  refine wpT_take (i := 1) (v := ?_) rfl (by kernel_rfl) (by decide) (by kernel_rfl) (by kernel_rfl) (by kernel_rfl) (fun _ _ _ h => h) (Or.inl ⟨by rfl, ?_⟩) (by assumption) ?_
  rotate_left
  · intro w9 hSw; (try dsimp only at hSw); go_simp; (first | done | with_reducible rfl)
  (try simp only [List.getElem_toArray, List.getElem_cons_succ, List.getElem_cons_zero, Act.put, List.setIfInBounds_toArray, List.set_cons_zero, List.set_cons_succ])
  refine wpT_take (i := 3) (v := ?_) rfl (by kernel_rfl) (by decide) (by kernel_rfl) (by kernel_rfl) (by kernel_rfl) (fun _ _ _ h => h) (Or.inl ⟨by rfl, ?_⟩) (by assumption) ?_
  rotate_left
  · intro w9 hSw; (try dsimp only at hSw); go_simp; (first | done | with_reducible rfl)
  (try simp only [List.getElem_toArray, List.getElem_cons_succ, List.getElem_cons_zero, Act.put, List.setIfInBounds_toArray, List.set_cons_zero, List.set_cons_succ])
  refine wpT_take (i := 4) (v := ?_) rfl (by kernel_rfl) (by decide) (by kernel_rfl) (by kernel_rfl) (by kernel_rfl) (fun _ _ _ h => h) (Or.inl ⟨by rfl, ?_⟩) (by assumption) ?_
  rotate_left
  · intro w9 hSw; (try dsimp only at hSw); go_simp; (first | done | with_reducible rfl)
  (try simp only [List.getElem_toArray, List.getElem_cons_succ, List.getElem_cons_zero, Act.put, List.setIfInBounds_toArray, List.set_cons_zero, List.set_cons_succ])
  refine wpT_step (i := 2) (by kernel_rfl) (by decide) rfl (fun K hK => ?_)
  go_simp
  refine (copyDisk_c _ d _ (diskC.vext H.out.1 hHeld.2.2.2.2.2.2) Hok.out.1).mono ?_
  rintro e wa ⟨u_a, v_a, rfl, Ea, O_a⟩
  replace O_a := O_a.own
  obtain ⟨⟨a_a, c_a, rfl⟩, b_a, e_a, rfl⟩ := disk_forms O_a.view
  have Eaw : Ext w wa := Ext.trans (by repeat (first | with_reducible exact Ext.refl _ | with_reducible assumption | with_reducible refine Ext.pAlloc ?_ _ | ((with_reducible refine Ext.pSet ?_ ?_ _); rotate_left; (simp <;> omega)) | with_reducible refine Ext.pDrew ?_ | with_reducible refine Ext.pDrewN ?_ _)) Ea
  replace O_a := O_a.wide (lo' := w.heap.size + 1 + 1) (hi' := wa.heap.size) (by first | omega | (simp <;> omega)) (Nat.le_refl _)
  have zwa : w.heap.size + 1 + 1 ≤ wa.heap.size := by have := Ea.size; (try simp at this); omega
  (try go_wp2_with fail)
  refine hK.out _ _ ?_ (fun hHeld2 => ?_)
  · (try dsimp only); (obtain ⟨s0, s1, s2, s3, s4, s5, s6⟩ := hHeld; exact ⟨cell_ext s0 Ea, cell_ext s1 Ea, cell_ext s2 Ea, cell_ext s3 Ea, Bx.ext s4 Ea, Bx.ext s5 Ea, s6.trans Ea⟩)
  clear hK K hHeld
  rename _ => hHeld
  (try simp only [List.getElem_toArray, List.getElem_cons_succ, List.getElem_cons_zero, Act.put, List.setIfInBounds_toArray, List.set_cons_zero, List.set_cons_succ])
  refine wpT_step (i := 5) (by kernel_rfl) (by decide) rfl (fun K hK => ?_)
  go_simp
  refine (copyDisk_c _ d' _ (diskC.vext H.out.2 hHeld.2.2.2.2.2.2) Hok.out.2).mono ?_
  rintro e wb ⟨u_b, v_b, rfl, Eb, O_b⟩
  replace O_b := O_b.own
  obtain ⟨⟨a_b, c_b, rfl⟩, b_b, e_b, rfl⟩ := disk_forms O_b.view
  have Ebw : Ext wa wb := Ext.trans (by repeat (first | with_reducible exact Ext.refl _ | with_reducible assumption | with_reducible refine Ext.pAlloc ?_ _ | ((with_reducible refine Ext.pSet ?_ ?_ _); rotate_left; (simp <;> omega)) | with_reducible refine Ext.pDrew ?_ | with_reducible refine Ext.pDrewN ?_ _)) Eb
  replace O_b := O_b.wide (lo' := wa.heap.size) (hi' := wb.heap.size) (by first | omega | (simp <;> omega)) (Nat.le_refl _)
  have zwb : wa.heap.size ≤ wb.heap.size := by have := Eb.size; (try simp at this); omega
  replace O_a := O_a.ext Ebw
  (try go_wp2_with fail)
  refine hK.out _ _ ?_ (fun hHeld2 => ?_)
  · (try dsimp only); (obtain ⟨s0, s1, s2, s3, s4, s5, s6⟩ := hHeld; exact ⟨cell_ext s0 Eb, cell_ext s1 Eb, cell_ext s2 Eb, cell_ext s3 Eb, Bx.ext s4 Eb, Bx.ext s5 Eb, s6.trans Eb⟩)
  clear hK K hHeld
  rename _ => hHeld
  (try simp only [List.getElem_toArray, List.getElem_cons_succ, List.getElem_cons_zero, Act.put, List.setIfInBounds_toArray, List.set_cons_zero, List.set_cons_succ])
  refine wpT_take (i := 6) (v := ?_) rfl (by kernel_rfl) (by decide) (by kernel_rfl) (by kernel_rfl) (by kernel_rfl) (fun _ _ _ h => h) (Or.inl ⟨by rfl, ?_⟩) (by assumption) ?_
  rotate_left
  · intro w9 hSw; (try dsimp only at hSw); go_simp; (first | done | with_reducible rfl)
  (try simp only [List.getElem_toArray, List.getElem_cons_succ, List.getElem_cons_zero, Act.put, List.setIfInBounds_toArray, List.set_cons_zero, List.set_cons_succ])
  refine wpT_last (by kernel_rfl) (by kernel_rfl) rfl (fun K hK => ?_)
  obtain ⟨e0, e1, e2, e3, e4, e5, e6⟩ := hHeld
  skip
  have c_r_0 := e5.cell 0 _ rfl
  have c_r_1 := e5.cell 1 _ rfl
  have c_r_2 := e5.cell 2 _ rfl
  have c_r_3 := e5.cell 3 _ rfl
  have f_r := e5.fr
  have n_r := e5.lt
  have X_l := e6
  go_simp
  refine hK.out _ _ ?_
  clear hK K
  go_wp2
  refine bodyPost_ret (v := .agg #[.slice a_a (d).1.length c_a, .slice b_a (d).2.length e_a, .slice a_b (d').1.length c_b, .slice b_b (d').2.length e_b]) (by simp [results, Try.results68, go_sem, c_r_0, c_r_1, c_r_2, c_r_3, n_r]) rfl ⟨_, _, _, _, rfl, ?_, ?_⟩
  · repeat (first | with_reducible exact Ext.refl _ | with_reducible assumption | with_reducible refine Ext.pAlloc ?_ _ | ((with_reducible refine Ext.pSet ?_ ?_ _); rotate_left; (simp <;> omega)) | with_reducible refine Ext.pDrew ?_ | with_reducible refine Ext.pDrewN ?_ _)
  · exact Cd.own.wide (prod_own (c := [_, _]) (d := [_, _]) (mid := wa.heap.size) (lo := w.heap.size + 1 + 1) (hi := wb.heap.size) (by repeat (first | with_reducible assumption | with_reducible refine Cd.own.pAlloc ?_ _ | with_reducible refine Cd.own.pDrew ?_ | with_reducible refine Cd.own.pDrewN ?_ _ | ((with_reducible refine Cd.own.pSet ?_ ?_ _); rotate_left; (simp <;> omega)))) (by repeat (first | with_reducible assumption | with_reducible refine Cd.own.pAlloc ?_ _ | with_reducible refine Cd.own.pDrew ?_ | with_reducible refine Cd.own.pDrewN ?_ _ | ((with_reducible refine Cd.own.pSet ?_ ?_ _); rotate_left; (simp <;> omega)))) (by omega) (by omega)) (by omega) (by first | (simp [World.setCell]; done) | (simp [World.setCell]; omega))

set_option maxHeartbeats 3200000 in
set_option maxRecDepth 20000 in
theorem l4Copy_c (cs : List Value) (m : TwoD) (w : World) (h : twoC.V w cs m) (hok : diskOk m.1 = true ∧ diskOk m.2 = true) :
    Calls Try.prog 66 #[.agg cs.toArray] w fun e w' => ∃ u v u' v', e = .returned (.agg #[u, v, u', v']) ∧ Ext w w' ∧ twoC.own w.heap.size w'.heap.size w' [u, v, u', v'] m := by
  obtain ⟨u, v, u', v', rfl, hu, hv⟩ := two_V.1 h
  have HT := Lib.hid h
  obtain ⟨d, d'⟩ := m
  simp only at hu hv
  obtain ⟨⟨ua, uc, rfl⟩, va, vc, rfl⟩ := disk_forms hu
  obtain ⟨⟨ua', uc', rfl⟩, va', vc', rfl⟩ := disk_forms hv
  have H := Lib.hid (And.intro hu hv); clear hu hv h
  have Hok := Lib.hid hok; clear hok
  go_enter Try.func66, Try.ntmps66
  go_wp2
  refine wp_region_T (S := fun ω => ω.cell? ⟨w.heap.size, 0, none⟩ = some (.slice ua d.1.length uc) ∧ ω.cell? ⟨w.heap.size, 1, none⟩ = some (.slice va d.2.length vc) ∧ ω.cell? ⟨w.heap.size, 2, none⟩ = some (.slice ua' d'.1.length uc') ∧ ω.cell? ⟨w.heap.size, 3, none⟩ = some (.slice va' d'.2.length vc') ∧ Bx ω (w.heap.size) [.slice ua d.1.length uc, .slice va d.2.length vc, .slice ua' d'.1.length uc', .slice va' d'.2.length vc'] ∧ Bx ω (w.heap.size + 1) [.slice none 0 0, .slice none 0 0, .slice none 0 0, .slice none 0 0] ∧ Ext w ω) 7 (by kernel_rfl) ?_ (fun hHeld => ?_) (by decide)
  · (try dsimp only); (refine ⟨?_, ?_, ?_, ?_, ?_, ?_, ?_⟩ <;> first | (simp [go_sem]; done) | (simp [*, go_sem]; done) | ((repeat (first | with_reducible assumption | with_reducible exact Bx.new _ _ _ _ rfl | ((with_reducible refine Bx.new _ _ _ _ ?_); simp; done) | with_reducible refine Bx.pAlloc ?_ _ | with_reducible refine Bx.pDrew ?_ | with_reducible refine Bx.pDrewN ?_ _ | with_reducible apply Bx.set10 | with_reducible apply Bx.set20 | with_reducible apply Bx.set21 | with_reducible apply Bx.set30 | with_reducible apply Bx.set31 | with_reducible apply Bx.set32 | with_reducible apply Bx.set40 | with_reducible apply Bx.set41 | with_reducible apply Bx.set42 | with_reducible apply Bx.set43 | ((with_reducible refine Bx.set_other ?_ ?_ _); rotate_left; (simp <;> omega)))); done) | ((repeat (first | with_reducible exact Ext.refl _ | with_reducible assumption | with_reducible refine Ext.pAlloc ?_ _ | ((with_reducible refine Ext.pSet ?_ ?_ _); rotate_left; (simp <;> omega)) | with_reducible refine Ext.pDrew ?_ | with_reducible refine Ext.pDrewN ?_ _)); done))
  refine wpT_take (i := 0) (v := ?_) rfl (by kernel_rfl) (by decide) (by kernel_rfl) (by kernel_rfl) (by kernel_rfl) (fun _ _ _ h => h) (Or.inl ⟨by rfl, ?_⟩) (by assumption) ?_
  rotate_left
  · intro w9 hSw; (try dsimp only at hSw); go_simp; (first | done | with_reducible rfl)
  (try simp only [List.getElem_toArray, List.getElem_cons_succ, List.getElem_cons_zero, Act.put, List.setIfInBounds_toArray, List.set_cons_zero, List.set_cons_succ])
  refine wpT_take (i := 1) (v := ?_) rfl (by kernel_rfl) (by decide) (by kernel_rfl) (by kernel_rfl) (by kernel_rfl) (fun _ _ _ h => h) (Or.inl ⟨by rfl, ?_⟩) (by assumption) ?_
  rotate_left
  · intro w9 hSw; (try dsimp only at hSw); go_simp; (first | done | with_reducible rfl)
  (try simp only [List.getElem_toArray, List.getElem_cons_succ, List.getElem_cons_zero, Act.put, List.setIfInBounds_toArray, List.set_cons_zero, List.set_cons_succ])
  refine wpT_take (i := 3) (v := ?_) rfl (by kernel_rfl) (by decide) (by kernel_rfl) (by kernel_rfl) (by kernel_rfl) (fun _ _ _ h => h) (Or.inl ⟨by rfl, ?_⟩) (by assumption) ?_
  rotate_left
  · intro w9 hSw; (try dsimp only at hSw); go_simp; (first | done | with_reducible rfl)
  (try simp only [List.getElem_toArray, List.getElem_cons_succ, List.getElem_cons_zero, Act.put, List.setIfInBounds_toArray, List.set_cons_zero, List.set_cons_succ])
  refine wpT_take (i := 4) (v := ?_) rfl (by kernel_rfl) (by decide) (by kernel_rfl) (by kernel_rfl) (by kernel_rfl) (fun _ _ _ h => h) (Or.inl ⟨by rfl, ?_⟩) (by assumption) ?_
  rotate_left
  · intro w9 hSw; (try dsimp only at hSw); go_simp; (first | done | with_reducible rfl)
  (try simp only [List.getElem_toArray, List.getElem_cons_succ, List.getElem_cons_zero, Act.put, List.setIfInBounds_toArray, List.set_cons_zero, List.set_cons_succ])
  refine wpT_step (i := 2) (by kernel_rfl) (by decide) rfl (fun K hK => ?_)
  go_simp
  refine (l3Copy_c _ d _ (diskC.vext H.out.1 hHeld.2.2.2.2.2.2) Hok.out.1).mono ?_
  rintro e wa ⟨u_a, v_a, rfl, Ea, O_a⟩
  replace O_a := O_a.own
  obtain ⟨⟨a_a, c_a, rfl⟩, b_a, e_a, rfl⟩ := disk_forms O_a.view
  have Eaw : Ext w wa := Ext.trans (by repeat (first | with_reducible exact Ext.refl _ | with_reducible assumption | with_reducible refine Ext.pAlloc ?_ _ | ((with_reducible refine Ext.pSet ?_ ?_ _); rotate_left; (simp <;> omega)) | with_reducible refine Ext.pDrew ?_ | with_reducible refine Ext.pDrewN ?_ _)) Ea
  replace O_a := O_a.wide (lo' := w.heap.size + 1 + 1) (hi' := wa.heap.size) (by first | omega | (simp <;> omega)) (Nat.le_refl _)
  have zwa : w.heap.size + 1 + 1 ≤ wa.heap.size := by have := Ea.size; (try simp at this); omega
  (try go_wp2_with fail)
  refine hK.out _ _ ?_ (fun hHeld2 => ?_)
  · (try dsimp only); (obtain ⟨s0, s1, s2, s3, s4, s5, s6⟩ := hHeld; exact ⟨cell_ext s0 Ea, cell_ext s1 Ea, cell_ext s2 Ea, cell_ext s3 Ea, Bx.ext s4 Ea, Bx.ext s5 Ea, s6.trans Ea⟩)
  clear hK K hHeld
  rename _ => hHeld
  (try simp only [List.getElem_toArray, List.getElem_cons_succ, List.getElem_cons_zero, Act.put, List.setIfInBounds_toArray, List.set_cons_zero, List.set_cons_succ])
  refine wpT_step (i := 5) (by kernel_rfl) (by decide) rfl (fun K hK => ?_)
  go_simp
  refine (l3Copy_c _ d' _ (diskC.vext H.out.2 hHeld.2.2.2.2.2.2) Hok.out.2).mono ?_
  rintro e wb ⟨u_b, v_b, rfl, Eb, O_b⟩
  replace O_b := O_b.own
  obtain ⟨⟨a_b, c_b, rfl⟩, b_b, e_b, rfl⟩ := disk_forms O_b.view
  have Ebw : Ext wa wb := Ext.trans (by repeat (first | with_reducible exact Ext.refl _ | with_reducible assumption | with_reducible refine Ext.pAlloc ?_ _ | ((with_reducible refine Ext.pSet ?_ ?_ _); rotate_left; (simp <;> omega)) | with_reducible refine Ext.pDrew ?_ | with_reducible refine Ext.pDrewN ?_ _)) Eb
  replace O_b := O_b.wide (lo' := wa.heap.size) (hi' := wb.heap.size) (by first | omega | (simp <;> omega)) (Nat.le_refl _)
  have zwb : wa.heap.size ≤ wb.heap.size := by have := Eb.size; (try simp at this); omega
  replace O_a := O_a.ext Ebw
  (try go_wp2_with fail)
  refine hK.out _ _ ?_ (fun hHeld2 => ?_)
  · (try dsimp only); (obtain ⟨s0, s1, s2, s3, s4, s5, s6⟩ := hHeld; exact ⟨cell_ext s0 Eb, cell_ext s1 Eb, cell_ext s2 Eb, cell_ext s3 Eb, Bx.ext s4 Eb, Bx.ext s5 Eb, s6.trans Eb⟩)
  clear hK K hHeld
  rename _ => hHeld
  (try simp only [List.getElem_toArray, List.getElem_cons_succ, List.getElem_cons_zero, Act.put, List.setIfInBounds_toArray, List.set_cons_zero, List.set_cons_succ])
  refine wpT_take (i := 6) (v := ?_) rfl (by kernel_rfl) (by decide) (by kernel_rfl) (by kernel_rfl) (by kernel_rfl) (fun _ _ _ h => h) (Or.inl ⟨by rfl, ?_⟩) (by assumption) ?_
  rotate_left
  · intro w9 hSw; (try dsimp only at hSw); go_simp; (first | done | with_reducible rfl)
  (try simp only [List.getElem_toArray, List.getElem_cons_succ, List.getElem_cons_zero, Act.put, List.setIfInBounds_toArray, List.set_cons_zero, List.set_cons_succ])
  refine wpT_last (by kernel_rfl) (by kernel_rfl) rfl (fun K hK => ?_)
  obtain ⟨e0, e1, e2, e3, e4, e5, e6⟩ := hHeld
  skip
  have c_r_0 := e5.cell 0 _ rfl
  have c_r_1 := e5.cell 1 _ rfl
  have c_r_2 := e5.cell 2 _ rfl
  have c_r_3 := e5.cell 3 _ rfl
  have f_r := e5.fr
  have n_r := e5.lt
  have X_l := e6
  go_simp
  refine hK.out _ _ ?_
  clear hK K
  go_wp2
  refine bodyPost_ret (v := .agg #[.slice a_a (d).1.length c_a, .slice b_a (d).2.length e_a, .slice a_b (d').1.length c_b, .slice b_b (d').2.length e_b]) (by simp [results, Try.results66, go_sem, c_r_0, c_r_1, c_r_2, c_r_3, n_r]) rfl ⟨_, _, _, _, rfl, ?_, ?_⟩
  · repeat (first | with_reducible exact Ext.refl _ | with_reducible assumption | with_reducible refine Ext.pAlloc ?_ _ | ((with_reducible refine Ext.pSet ?_ ?_ _); rotate_left; (simp <;> omega)) | with_reducible refine Ext.pDrew ?_ | with_reducible refine Ext.pDrewN ?_ _)
  · exact Cd.own.wide (prod_own (c := [_, _]) (d := [_, _]) (mid := wa.heap.size) (lo := w.heap.size + 1 + 1) (hi := wb.heap.size) (by repeat (first | with_reducible assumption | with_reducible refine Cd.own.pAlloc ?_ _ | with_reducible refine Cd.own.pDrew ?_ | with_reducible refine Cd.own.pDrewN ?_ _ | ((with_reducible refine Cd.own.pSet ?_ ?_ _); rotate_left; (simp <;> omega)))) (by repeat (first | with_reducible assumption | with_reducible refine Cd.own.pAlloc ?_ _ | with_reducible refine Cd.own.pDrew ?_ | with_reducible refine Cd.own.pDrewN ?_ _ | ((with_reducible refine Cd.own.pSet ?_ ?_ _); rotate_left; (simp <;> omega)))) (by omega) (by omega)) (by omega) (by first | (simp [World.setCell]; done) | (simp [World.setCell]; omega))

theorem disks_c (a b c e a' b' c' e' : _) (n1 n2 n3 n4 : Nat) (w : World) :
    Calls Try.prog 55 #[.agg #[.slice a n1 b, .slice c n2 e, .slice a' n3 b', .slice c' n4 e']] w fun r w' => r = .returned (.agg #[.slice a n1 b, .slice c n2 e, .slice a' n3 b', .slice c' n4 e']) ∧ Ext w w' := by
  go_enter Try.func55, Try.ntmps55
  go_wp2
  refine bodyPost_ret (v := .agg #[.slice a n1 b, .slice c n2 e, .slice a' n3 b', .slice c' n4 e']) (by simp [results, Try.results55, go_sem]) rfl ⟨rfl, ?_⟩
  repeat (first | with_reducible exact Ext.refl _ | with_reducible assumption | with_reducible refine Ext.pAlloc ?_ _ | ((with_reducible refine Ext.pSet ?_ ?_ _); rotate_left; (simp <;> omega)) | with_reducible refine Ext.pDrew ?_ | with_reducible refine Ext.pDrewN ?_ _)

theorem twoOf_c (a b c e a' b' c' e' : _) (n1 n2 n3 n4 : Nat) (w : World) :
    Calls Try.prog 62 #[.agg #[.slice a n1 b, .slice c n2 e, .slice a' n3 b', .slice c' n4 e']] w fun r w' => r = .returned (.agg #[.slice a n1 b, .slice c n2 e, .slice a' n3 b', .slice c' n4 e']) ∧ Ext w w' := by
  go_enter Try.func62, Try.ntmps62
  go_wp2
  refine bodyPost_ret (v := .agg #[.slice a n1 b, .slice c n2 e, .slice a' n3 b', .slice c' n4 e']) (by simp [results, Try.results62, go_sem]) rfl ⟨rfl, ?_⟩
  repeat (first | with_reducible exact Ext.refl _ | with_reducible assumption | with_reducible refine Ext.pAlloc ?_ _ | ((with_reducible refine Ext.pSet ?_ ?_ _); rotate_left; (simp <;> omega)) | with_reducible refine Ext.pDrew ?_ | with_reducible refine Ext.pDrewN ?_ _)

theorem two_forms {w : World} {u v p q : Value} {m : TwoD} (h : twoC.V w [u, v, p, q] m) : ((∃ a c, u = .slice a m.1.1.length c) ∧ ∃ a c, v = .slice a m.1.2.length c) ∧ (∃ a c, p = .slice a m.2.1.length c) ∧ ∃ a c, q = .slice a m.2.2.length c := by
  obtain ⟨u', v', p', q', e, hu, hv⟩ := two_V.1 h
  cases e
  exact ⟨disk_forms hu, disk_forms hv⟩

end Go.Proofs.Ytbapomhoipdanaa
