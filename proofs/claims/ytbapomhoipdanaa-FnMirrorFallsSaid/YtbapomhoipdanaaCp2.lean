/- The reference's copy of a disk. -/
import Derived.Test.YtbapomhoipdanaaCp
set_option linter.unusedVariables false
set_option linter.unusedSimpArgs false
namespace Go.Proofs.Ytbapomhoipdanaa
open Go.RowKit Go.Sl

set_option maxHeartbeats 8000000 in
set_option maxRecDepth 20000 in
theorem l3Copy_c (cs : List Value) (d : DiskD) (w : World) (h : diskC.V w cs d) (hok : diskOk d = true) :
    Calls Try.prog 97 #[.agg cs.toArray] w fun e w' => ∃ u v, e = .returned (.agg #[u, v]) ∧ Ext w w' ∧ diskS w.heap.size w'.heap.size w' u v d := by
  obtain ⟨u, v, rfl, hu, hv⟩ := disk_V.1 h
  obtain ⟨rs, ws⟩ := d
  obtain ⟨z1, z2, z3, z4, z5⟩ := diskOk_rows hok
  simp only at hu hv
  obtain ⟨a, cap, rfl, h1, h2, hc⟩ := slice_open1 (R := rowC) rfl hu
  obtain ⟨a', cap', rfl, h1', h2', hc'⟩ := slice_open (R := writeC) (by decide) hv
  have Z1 := Lib.hid z1
  have Z2 := Lib.hid z2
  have hinf : (Try.prog.info? 59).map (fun i => (i.zero, i.size, i.bytes)) = some (some (.agg #[.int .i64 0, .slice none 0 0]), 2, 32) := by kernel_rfl
  have Hinf := Lib.hid hinf
  have hinr : (Try.prog.info? 44).map (fun i => (i.zero, i.size, i.bytes)) = some (some (.slice none 0 0), 1, 24) := by kernel_rfl
  have Hinr := Lib.hid hinr
  clear hu hv h hok z1 z2 hinf hinr
  go_enter Try.func97, Try.ntmps97
  go_wp2
  go_loopw [4] (fun i wr => ∃ (k : Nat) (v2 : Value), k ≤ rs.length ∧ i = .int .i64 k ∧ (∃ a c, v2 = .slice a k c) ∧ Bx wr (w.heap.size) [.slice a rs.length cap, .slice a' ws.length cap'] ∧ Bx wr (w.heap.size + 1) [.slice none 0 0, .slice none 0 0] ∧ Bx wr (w.heap.size + 1 + 1) [v2, .slice none 0 0] ∧ rowsC.own (w.heap.size + 3) wr.heap.size wr [v2] (rs.take k) ∧ Ext w wr) (fun i _ => rs.length - (intOf i).toNat)
  case atStart => exact ⟨0, .slice none 0 0, Nat.zero_le _, rfl, ⟨_, _, rfl⟩, by repeat (first | with_reducible assumption | with_reducible exact Bx.new _ _ _ _ rfl | ((with_reducible refine Bx.new _ _ _ _ ?_); simp; done) | with_reducible refine Bx.pAlloc ?_ _ | with_reducible refine Bx.pDrew ?_ | with_reducible refine Bx.pDrewN ?_ _ | with_reducible apply Bx.set10 | with_reducible apply Bx.set20 | with_reducible apply Bx.set21 | with_reducible apply Bx.set30 | with_reducible apply Bx.set31 | with_reducible apply Bx.set32 | with_reducible apply Bx.set40 | with_reducible apply Bx.set41 | with_reducible apply Bx.set42 | with_reducible apply Bx.set43 | ((with_reducible refine Bx.set_other ?_ ?_ _); rotate_left; (simp <;> omega))), by repeat (first | with_reducible assumption | with_reducible exact Bx.new _ _ _ _ rfl | ((with_reducible refine Bx.new _ _ _ _ ?_); simp; done) | with_reducible refine Bx.pAlloc ?_ _ | with_reducible refine Bx.pDrew ?_ | with_reducible refine Bx.pDrewN ?_ _ | with_reducible apply Bx.set10 | with_reducible apply Bx.set20 | with_reducible apply Bx.set21 | with_reducible apply Bx.set30 | with_reducible apply Bx.set31 | with_reducible apply Bx.set32 | with_reducible apply Bx.set40 | with_reducible apply Bx.set41 | with_reducible apply Bx.set42 | with_reducible apply Bx.set43 | ((with_reducible refine Bx.set_other ?_ ?_ _); rotate_left; (simp <;> omega))), by repeat (first | with_reducible assumption | with_reducible exact Bx.new _ _ _ _ rfl | ((with_reducible refine Bx.new _ _ _ _ ?_); simp; done) | with_reducible refine Bx.pAlloc ?_ _ | with_reducible refine Bx.pDrew ?_ | with_reducible refine Bx.pDrewN ?_ _ | with_reducible apply Bx.set10 | with_reducible apply Bx.set20 | with_reducible apply Bx.set21 | with_reducible apply Bx.set30 | with_reducible apply Bx.set31 | with_reducible apply Bx.set32 | with_reducible apply Bx.set40 | with_reducible apply Bx.set41 | with_reducible apply Bx.set42 | with_reducible apply Bx.set43 | ((with_reducible refine Bx.set_other ?_ ?_ _); rotate_left; (simp <;> omega))), sl_nil _ _ _, by repeat (first | with_reducible exact Ext.refl _ | with_reducible assumption | with_reducible refine Ext.pAlloc ?_ _ | ((with_reducible refine Ext.pSet ?_ ?_ _); rotate_left; (simp <;> omega)) | with_reducible refine Ext.pDrew ?_ | with_reducible refine Ext.pDrewN ?_ _)⟩
  case round =>
    obtain ⟨k, v2, hk, rfl, ⟨va, vc, rfl⟩, B_d, B_r, B_o, O_k, X⟩ := hrel
    by_cases hlt : k < rs.length
    · obtain ⟨b, off, x, ux, rfl, hx, hvx, hcell⟩ := hc k hlt
      clear hc hc'
      obtain ⟨xa, xc, rfl⟩ := u_slice hvx
      have HV := Lib.hid hvx
      have hcw := cell_ext hcell X
      have nb := World.block_lt_of_cell? _ _ hcell
      clear hvx
      have hlen := Z1.out x (List.mem_of_getElem? hx.out)
      have c0 := B_d.cell 0 _ rfl
      have c1 := B_o.cell 0 _ rfl
      have hi1 : (0 : Int) ≤ k := by omega
      have hi2 : (k : Int) < rs.length := by omega
      have n2 := B_o.lt
      go_wp2
      refine wp_region_T (S := fun ω => ω.cell? ⟨w.heap.size + 1 + 1, 0, none⟩ = some (.slice va k vc) ∧ ω.cell? ⟨w.heap.size, 0, none⟩ = some (.slice (some ⟨b, off, none⟩) rs.length cap) ∧ ω.cell? ⟨b, off + k, none⟩ = some (.slice xa x.length xc) ∧ Bx ω (w.heap.size) [.slice (some ⟨b, off, none⟩) rs.length cap, .slice a' ws.length cap'] ∧ Bx ω (w.heap.size + 1) [.slice none 0 0, .slice none 0 0] ∧ Bx ω (w.heap.size + 1 + 1) [.slice va k vc, .slice none 0 0] ∧ Ext w ω) 11 (by kernel_rfl) ?_ (fun hHeld => ?_) (by decide)
      · (try dsimp only); (refine ⟨?_, ?_, ?_, ?_, ?_, ?_, ?_⟩ <;> first | (simp [go_sem]; done) | (simp [*, go_sem]; done) | ((repeat (first | with_reducible assumption | with_reducible exact Bx.new _ _ _ _ rfl | ((with_reducible refine Bx.new _ _ _ _ ?_); simp; done) | with_reducible refine Bx.pAlloc ?_ _ | with_reducible refine Bx.pDrew ?_ | with_reducible refine Bx.pDrewN ?_ _ | with_reducible apply Bx.set10 | with_reducible apply Bx.set20 | with_reducible apply Bx.set21 | with_reducible apply Bx.set30 | with_reducible apply Bx.set31 | with_reducible apply Bx.set32 | with_reducible apply Bx.set40 | with_reducible apply Bx.set41 | with_reducible apply Bx.set42 | with_reducible apply Bx.set43 | ((with_reducible refine Bx.set_other ?_ ?_ _); rotate_left; (simp <;> omega)))); done) | ((repeat (first | with_reducible exact Ext.refl _ | with_reducible assumption | with_reducible refine Ext.pAlloc ?_ _ | ((with_reducible refine Ext.pSet ?_ ?_ _); rotate_left; (simp <;> omega)) | with_reducible refine Ext.pDrew ?_ | with_reducible refine Ext.pDrewN ?_ _)); done))
      refine wpT_take (i := 0) (v := ?_) rfl (by kernel_rfl) (by decide) (by kernel_rfl) (by kernel_rfl) (by kernel_rfl) (fun _ _ _ h => h) (Or.inl ⟨by rfl, ?_⟩) (by assumption) ?_
      rotate_left
      · intro w9 hSw; (try dsimp only at hSw); go_simp; (first | done | with_reducible rfl)
      (try simp only [List.getElem_toArray, List.getElem_cons_succ, List.getElem_cons_zero, Act.put, List.setIfInBounds_toArray, List.set_cons_zero, List.set_cons_succ])
      refine wpT_take (i := 1) (v := ?_) rfl (by kernel_rfl) (by decide) (by kernel_rfl) (by kernel_rfl) (by kernel_rfl) (fun _ _ _ h => h) (Or.inl ⟨by rfl, ?_⟩) (by assumption) ?_
      rotate_left
      · intro w9 hSw; (try dsimp only at hSw); go_simp; (first | done | with_reducible rfl)
      (try simp only [List.getElem_toArray, List.getElem_cons_succ, List.getElem_cons_zero, Act.put, List.setIfInBounds_toArray, List.set_cons_zero, List.set_cons_succ])
      refine wpT_take (i := 2) (v := ?_) rfl (by kernel_rfl) (by decide) (by kernel_rfl) (by kernel_rfl) (by kernel_rfl) (fun _ _ _ h => h) (Or.inl ⟨by rfl, ?_⟩) (by assumption) ?_
      rotate_left
      · intro w9 hSw; (try dsimp only at hSw); go_simp; (first | done | with_reducible rfl)
      (try simp only [List.getElem_toArray, List.getElem_cons_succ, List.getElem_cons_zero, Act.put, List.setIfInBounds_toArray, List.set_cons_zero, List.set_cons_succ])
      refine wpT_take (i := 3) (v := ?_) rfl (by kernel_rfl) (by decide) (by kernel_rfl) (by kernel_rfl) (by kernel_rfl) (fun _ _ _ h => h) (Or.inl ⟨by rfl, ?_⟩) (by assumption) ?_
      rotate_left
      · intro w9 hSw; (try dsimp only at hSw); go_simp; (first | done | with_reducible rfl)
      (try simp only [List.getElem_toArray, List.getElem_cons_succ, List.getElem_cons_zero, Act.put, List.setIfInBounds_toArray, List.set_cons_zero, List.set_cons_succ])
      refine wpT_take (i := 4) (v := ?_) rfl (by kernel_rfl) (by decide) (by kernel_rfl) (by kernel_rfl) (by kernel_rfl) (fun _ _ _ h => h) (Or.inl ⟨by rfl, ?_⟩) (by assumption) ?_
      rotate_left
      · intro w9 hSw; (try dsimp only at hSw); go_simp; (first | done | with_reducible rfl)
      (try simp only [List.getElem_toArray, List.getElem_cons_succ, List.getElem_cons_zero, Act.put, List.setIfInBounds_toArray, List.set_cons_zero, List.set_cons_succ])
      refine wpT_take (i := 5) (v := ?_) rfl (by kernel_rfl) (by decide) (by kernel_rfl) (by kernel_rfl) (by kernel_rfl) (fun _ _ _ h => h) (Or.inl ⟨by rfl, ?_⟩) (by assumption) ?_
      rotate_left
      · intro w9 hSw; (try dsimp only at hSw); go_simp; (first | done | with_reducible rfl)
      (try simp only [List.getElem_toArray, List.getElem_cons_succ, List.getElem_cons_zero, Act.put, List.setIfInBounds_toArray, List.set_cons_zero, List.set_cons_succ])
      refine wpT_take (i := 6) (v := ?_) rfl (by kernel_rfl) (by decide) (by kernel_rfl) (by kernel_rfl) (by kernel_rfl) (fun _ _ _ h => h) (Or.inl ⟨by rfl, ?_⟩) (by assumption) ?_
      rotate_left
      · intro w9 hSw; (try dsimp only at hSw); go_simp; (first | done | with_reducible rfl)
      (try simp only [List.getElem_toArray, List.getElem_cons_succ, List.getElem_cons_zero, Act.put, List.setIfInBounds_toArray, List.set_cons_zero, List.set_cons_succ])
      refine wpT_step (i := 7) (by kernel_rfl) (by decide) rfl (fun K hK => ?_)
      go_simp
      refine (l1Copy_c _ x _ (rowC.vext HV.out hHeld.2.2.2.2.2.2) (by omega)).mono ?_
      rintro e w2 ⟨u2, rfl, hE2, hO2⟩
      have hEw : Ext wr w2 := Ext.trans (by repeat (first | with_reducible exact Ext.refl _ | with_reducible assumption | with_reducible refine Ext.pAlloc ?_ _ | ((with_reducible refine Ext.pSet ?_ ?_ _); rotate_left; (simp <;> omega)) | with_reducible refine Ext.pDrew ?_ | with_reducible refine Ext.pDrewN ?_ _)) hE2
      obtain ⟨ua2, uc2, rfl⟩ := u_slice hO2.view
      have hz2 := hEw.size
      (try go_wp2_with fail)
      refine hK.out _ _ ?_ (fun hHeld2 => ?_)
      · (try dsimp only); (obtain ⟨s0, s1, s2, s3, s4, s5, s6⟩ := hHeld; exact ⟨cell_ext s0 hE2, cell_ext s1 hE2, cell_ext s2 hE2, Bx.ext s3 hE2, Bx.ext s4 hE2, Bx.ext s5 hE2, s6.trans hE2⟩)
      clear hK K hHeld
      rename _ => hHeld
      (try simp only [List.getElem_toArray, List.getElem_cons_succ, List.getElem_cons_zero, Act.put, List.setIfInBounds_toArray, List.set_cons_zero, List.set_cons_succ])
      refine wpT_step (i := 8) (by kernel_rfl) (by decide) rfl (fun K hK => ?_)
      go_simp
      refine hK.out _ _ ?_ (fun hHeld2 => ?_)
      · (try dsimp only); (obtain ⟨s0, s1, s2, s3, s4, s5, s6⟩ := hHeld; exact ⟨cell_ext s0 (Ext.alloc _ _), cell_ext s1 (Ext.alloc _ _), cell_ext s2 (Ext.alloc _ _), Bx.ext s3 (Ext.alloc _ _), Bx.ext s4 (Ext.alloc _ _), Bx.ext s5 (Ext.alloc _ _), s6.trans (Ext.alloc _ _)⟩)
      clear hK K hHeld
      rename _ => hHeld
      (try simp only [List.getElem_toArray, List.getElem_cons_succ, List.getElem_cons_zero, Act.put, List.setIfInBounds_toArray, List.set_cons_zero, List.set_cons_succ])
      refine wpT_step (i := 9) (by kernel_rfl) (by decide) rfl (fun K hK => ?_)
      rw [if_pos (by rfl)]
      refine opwp_snocC (R := rowC) _ _ _ (by rfl) 44 _ 24 Try.underlying22 Hinr.out (by rfl) (O_k.ext (hEw.trans (Ext.alloc _ _))) (by rfl) (hO2.ext (Ext.alloc _ _)) (by first | omega | (simp <;> omega)) (by first | omega | (simp <;> omega)) (by first | omega | (simp <;> omega)) _ _ (by rfl) (CellsAt.lit _ _ _) (by rw [List.length_take]; omega) ?_
      rintro v4 w4 ⟨a4, c4, rfl⟩ hO4 hC4
      simp only [List.length_take, Nat.min_eq_left hk] at hO4 ⊢
      refine hK.out _ _ ?_ (fun hHeld2 => ?_)
      · (try dsimp only); (obtain ⟨s0, s1, s2, s3, s4, s5, s6⟩ := hHeld; exact ⟨cell_chg s0 hC4 (by omega), cell_chg s1 hC4 (by omega), cell_chg s2 hC4 (by omega), Bx.chg s3 hC4 (by omega), Bx.chg s4 hC4 (by omega), Bx.chg s5 hC4 (by omega), Chg.ext s6 hC4 (by omega)⟩)
      clear hK K hHeld
      rename _ => hHeld
      (try simp only [List.getElem_toArray, List.getElem_cons_succ, List.getElem_cons_zero, Act.put, List.setIfInBounds_toArray, List.set_cons_zero, List.set_cons_succ])
      refine wpT_take (i := 10) (v := ?_) rfl (by kernel_rfl) (by decide) (by kernel_rfl) (by kernel_rfl) (by kernel_rfl) (fun _ _ _ h => h) (Or.inl ⟨by rfl, ?_⟩) (by assumption) ?_
      rotate_left
      · intro w9 hSw; (try dsimp only at hSw); go_simp; (first | done | with_reducible rfl)
      (try simp only [List.getElem_toArray, List.getElem_cons_succ, List.getElem_cons_zero, Act.put, List.setIfInBounds_toArray, List.set_cons_zero, List.set_cons_succ])
      refine wpT_last (by kernel_rfl) (by kernel_rfl) rfl (fun K hK => ?_)
      obtain ⟨e0, e1, e2, e3, e4, e5, e6⟩ := hHeld
      have n4 := e5.lt
      clear c0 c1 hcw n2
      have c2 := e1; have c3 := e5.cell 0 _ rfl; have f3 := e5.fr
      clear e0 e1 e2
      go_simp
      refine hK.out _ _ ?_
      clear hK K
      go_wp2
      go_roundw
      case rel =>
        refine ⟨k + 1, .slice a4 (k + 1) c4, by omega, by go_num, ⟨_, _, rfl⟩, by repeat (first | with_reducible assumption | with_reducible exact Bx.new _ _ _ _ rfl | ((with_reducible refine Bx.new _ _ _ _ ?_); simp; done) | with_reducible refine Bx.pAlloc ?_ _ | with_reducible refine Bx.pDrew ?_ | with_reducible refine Bx.pDrewN ?_ _ | with_reducible apply Bx.set10 | with_reducible apply Bx.set20 | with_reducible apply Bx.set21 | with_reducible apply Bx.set30 | with_reducible apply Bx.set31 | with_reducible apply Bx.set32 | with_reducible apply Bx.set40 | with_reducible apply Bx.set41 | with_reducible apply Bx.set42 | with_reducible apply Bx.set43 | ((with_reducible refine Bx.set_other ?_ ?_ _); rotate_left; (simp <;> omega))), by repeat (first | with_reducible assumption | with_reducible exact Bx.new _ _ _ _ rfl | ((with_reducible refine Bx.new _ _ _ _ ?_); simp; done) | with_reducible refine Bx.pAlloc ?_ _ | with_reducible refine Bx.pDrew ?_ | with_reducible refine Bx.pDrewN ?_ _ | with_reducible apply Bx.set10 | with_reducible apply Bx.set20 | with_reducible apply Bx.set21 | with_reducible apply Bx.set30 | with_reducible apply Bx.set31 | with_reducible apply Bx.set32 | with_reducible apply Bx.set40 | with_reducible apply Bx.set41 | with_reducible apply Bx.set42 | with_reducible apply Bx.set43 | ((with_reducible refine Bx.set_other ?_ ?_ _); rotate_left; (simp <;> omega))), by repeat (first | with_reducible assumption | with_reducible exact Bx.new _ _ _ _ rfl | ((with_reducible refine Bx.new _ _ _ _ ?_); simp; done) | with_reducible refine Bx.pAlloc ?_ _ | with_reducible refine Bx.pDrew ?_ | with_reducible refine Bx.pDrewN ?_ _ | with_reducible apply Bx.set10 | with_reducible apply Bx.set20 | with_reducible apply Bx.set21 | with_reducible apply Bx.set30 | with_reducible apply Bx.set31 | with_reducible apply Bx.set32 | with_reducible apply Bx.set40 | with_reducible apply Bx.set41 | with_reducible apply Bx.set42 | with_reducible apply Bx.set43 | ((with_reducible refine Bx.set_other ?_ ?_ _); rotate_left; (simp <;> omega))), ?_, by repeat (first | with_reducible exact Ext.refl _ | with_reducible assumption | with_reducible refine Ext.pAlloc ?_ _ | ((with_reducible refine Ext.pSet ?_ ?_ _); rotate_left; (simp <;> omega)) | with_reducible refine Ext.pDrew ?_ | with_reducible refine Ext.pDrewN ?_ _)⟩
        rw [take_snoc hx]; exact Cd.own.wide (own_set hO4 (by simp) _) (Nat.le_refl _) (by simp [World.setCell])
      case measure => simp [intOf]; omega
    · have he : k = rs.length := by omega
      subst he
      rw [List.take_length] at O_k
      clear hc hlt hk
      have c0 := B_d.cell 0 _ rfl
      have n0 := B_d.lt
      go_wp2
      obtain ⟨wo, hwo⟩ : ∃ wo : World, wo = wr := ⟨_, rfl⟩
      subst hwo
      have n2 := B_o.lt
      go_loopw [5] (fun i wq => ∃ (k : Nat) (v3 : Value), k ≤ ws.length ∧ i = .int .i64 k ∧ (∃ a c, v3 = .slice a k c) ∧ Bx wq (w.heap.size) [.slice a rs.length cap, .slice a' ws.length cap'] ∧ Bx wq (w.heap.size + 1) [.slice none 0 0, .slice none 0 0] ∧ Bx wq (w.heap.size + 1 + 1) [.slice va rs.length vc, v3] ∧ rowsC.own (w.heap.size + 3) wo.heap.size wq [.slice va rs.length vc] rs ∧ waitC.own wo.heap.size wq.heap.size wq [v3] (ws.take k) ∧ Ext w wq ∧ wo.heap.size ≤ wq.heap.size) (fun i _ => ws.length - (intOf i).toNat)
      case atStart => exact ⟨0, .slice none 0 0, Nat.zero_le _, rfl, ⟨_, _, rfl⟩, by repeat (first | with_reducible assumption | with_reducible exact Bx.new _ _ _ _ rfl | ((with_reducible refine Bx.new _ _ _ _ ?_); simp; done) | with_reducible refine Bx.pAlloc ?_ _ | with_reducible refine Bx.pDrew ?_ | with_reducible refine Bx.pDrewN ?_ _ | with_reducible apply Bx.set10 | with_reducible apply Bx.set20 | with_reducible apply Bx.set21 | with_reducible apply Bx.set30 | with_reducible apply Bx.set31 | with_reducible apply Bx.set32 | with_reducible apply Bx.set40 | with_reducible apply Bx.set41 | with_reducible apply Bx.set42 | with_reducible apply Bx.set43 | ((with_reducible refine Bx.set_other ?_ ?_ _); rotate_left; (simp <;> omega))), by repeat (first | with_reducible assumption | with_reducible exact Bx.new _ _ _ _ rfl | ((with_reducible refine Bx.new _ _ _ _ ?_); simp; done) | with_reducible refine Bx.pAlloc ?_ _ | with_reducible refine Bx.pDrew ?_ | with_reducible refine Bx.pDrewN ?_ _ | with_reducible apply Bx.set10 | with_reducible apply Bx.set20 | with_reducible apply Bx.set21 | with_reducible apply Bx.set30 | with_reducible apply Bx.set31 | with_reducible apply Bx.set32 | with_reducible apply Bx.set40 | with_reducible apply Bx.set41 | with_reducible apply Bx.set42 | with_reducible apply Bx.set43 | ((with_reducible refine Bx.set_other ?_ ?_ _); rotate_left; (simp <;> omega))), by repeat (first | with_reducible assumption | with_reducible exact Bx.new _ _ _ _ rfl | ((with_reducible refine Bx.new _ _ _ _ ?_); simp; done) | with_reducible refine Bx.pAlloc ?_ _ | with_reducible refine Bx.pDrew ?_ | with_reducible refine Bx.pDrewN ?_ _ | with_reducible apply Bx.set10 | with_reducible apply Bx.set20 | with_reducible apply Bx.set21 | with_reducible apply Bx.set30 | with_reducible apply Bx.set31 | with_reducible apply Bx.set32 | with_reducible apply Bx.set40 | with_reducible apply Bx.set41 | with_reducible apply Bx.set42 | with_reducible apply Bx.set43 | ((with_reducible refine Bx.set_other ?_ ?_ _); rotate_left; (simp <;> omega))), O_k, sl_nil _ _ _, by repeat (first | with_reducible exact Ext.refl _ | with_reducible assumption | with_reducible refine Ext.pAlloc ?_ _ | ((with_reducible refine Ext.pSet ?_ ?_ _); rotate_left; (simp <;> omega)) | with_reducible refine Ext.pDrew ?_ | with_reducible refine Ext.pDrewN ?_ _), Nat.le_refl _⟩
      case round =>
        clear B_d B_r B_o O_k X c0 n0
        obtain ⟨k, v3, hk, rfl, ⟨wa, wc, rfl⟩, B_d, B_r, B_o, O_k, O_w, X, hzq⟩ := hrel
        by_cases hlt : k < ws.length
        · obtain ⟨b, off, x, c, rfl, hx, hvx, hcell⟩ := hc' k hlt
          clear hc'
          obtain ⟨y, rfl, hvy⟩ := write_V.1 hvx
          obtain ⟨xa, xc, rfl⟩ := u_slice hvy
          have HV := Lib.hid hvy
          have hcw0 : wr.cell? ⟨b, off + k * 2, none⟩ = some (.int .i64 x.1) := cell_ext (hcell 0 _ rfl) X
          have hcw1 : wr.cell? ⟨b, off + k * 2 + 1, none⟩ = some (.slice xa x.2.length xc) := cell_ext (hcell 1 _ rfl) X
          have nb := World.block_lt_of_cell? _ _ (hcell 0 _ rfl)
          clear hvx hvy hcell
          have hlen := Z2.out x (List.mem_of_getElem? hx.out)
          have c0 := B_d.cell 1 _ rfl
          have c1 := B_o.cell 1 _ rfl
          have hi1 : (0 : Int) ≤ k := by omega
          have hi2 : (k : Int) < ws.length := by omega
          go_wp2
          refine wp_region_T (S := fun ω => ω.cell? ⟨w.heap.size + 1 + 1, 1, none⟩ = some (.slice wa k wc) ∧ ω.cell? ⟨w.heap.size, 1, none⟩ = some (.slice (some ⟨b, off, none⟩) ws.length cap') ∧ ω.cell? ⟨b, off + k * 2, none⟩ = some (.int .i64 x.1) ∧ ω.cell? ⟨b, off + k * 2 + 1, none⟩ = some (.slice xa x.2.length xc) ∧ Bx ω (w.heap.size) [.slice a rs.length cap, .slice (some ⟨b, off, none⟩) ws.length cap'] ∧ Bx ω (w.heap.size + 1) [.slice none 0 0, .slice none 0 0] ∧ Bx ω (w.heap.size + 1 + 1) [.slice va rs.length vc, .slice wa k wc] ∧ Ext w ω) 19 (by kernel_rfl) ?_ (fun hHeld => ?_) (by decide)
          · (try dsimp only); (refine ⟨?_, ?_, ?_, ?_, ?_, ?_, ?_, ?_⟩ <;> first | (simp [go_sem]; done) | (simp [*, go_sem]; done) | ((repeat (first | with_reducible assumption | with_reducible exact Bx.new _ _ _ _ rfl | ((with_reducible refine Bx.new _ _ _ _ ?_); simp; done) | with_reducible refine Bx.pAlloc ?_ _ | with_reducible refine Bx.pDrew ?_ | with_reducible refine Bx.pDrewN ?_ _ | with_reducible apply Bx.set10 | with_reducible apply Bx.set20 | with_reducible apply Bx.set21 | with_reducible apply Bx.set30 | with_reducible apply Bx.set31 | with_reducible apply Bx.set32 | with_reducible apply Bx.set40 | with_reducible apply Bx.set41 | with_reducible apply Bx.set42 | with_reducible apply Bx.set43 | ((with_reducible refine Bx.set_other ?_ ?_ _); rotate_left; (simp <;> omega)))); done) | ((repeat (first | with_reducible exact Ext.refl _ | with_reducible assumption | with_reducible refine Ext.pAlloc ?_ _ | ((with_reducible refine Ext.pSet ?_ ?_ _); rotate_left; (simp <;> omega)) | with_reducible refine Ext.pDrew ?_ | with_reducible refine Ext.pDrewN ?_ _)); done))
          refine wpT_take (i := 0) (v := ?_) rfl (by kernel_rfl) (by decide) (by kernel_rfl) (by kernel_rfl) (by kernel_rfl) (fun _ _ _ h => h) (Or.inl ⟨by rfl, ?_⟩) (by assumption) ?_
          rotate_left
          · intro w9 hSw; (try dsimp only at hSw); go_simp; (first | done | with_reducible rfl)
          (try simp only [List.getElem_toArray, List.getElem_cons_succ, List.getElem_cons_zero, Act.put, List.setIfInBounds_toArray, List.set_cons_zero, List.set_cons_succ])
          refine wpT_take (i := 1) (v := ?_) rfl (by kernel_rfl) (by decide) (by kernel_rfl) (by kernel_rfl) (by kernel_rfl) (fun _ _ _ h => h) (Or.inl ⟨by rfl, ?_⟩) (by assumption) ?_
          rotate_left
          · intro w9 hSw; (try dsimp only at hSw); go_simp; (first | done | with_reducible rfl)
          (try simp only [List.getElem_toArray, List.getElem_cons_succ, List.getElem_cons_zero, Act.put, List.setIfInBounds_toArray, List.set_cons_zero, List.set_cons_succ])
          refine wpT_take (i := 2) (v := ?_) rfl (by kernel_rfl) (by decide) (by kernel_rfl) (by kernel_rfl) (by kernel_rfl) (fun _ _ _ h => h) (Or.inl ⟨by rfl, ?_⟩) (by assumption) ?_
          rotate_left
          · intro w9 hSw; (try dsimp only at hSw); go_simp; (first | done | with_reducible rfl)
          (try simp only [List.getElem_toArray, List.getElem_cons_succ, List.getElem_cons_zero, Act.put, List.setIfInBounds_toArray, List.set_cons_zero, List.set_cons_succ])
          refine wpT_take (i := 3) (v := ?_) rfl (by kernel_rfl) (by decide) (by kernel_rfl) (by kernel_rfl) (by kernel_rfl) (fun _ _ _ h => h) (Or.inl ⟨by rfl, ?_⟩) (by assumption) ?_
          rotate_left
          · intro w9 hSw; (try dsimp only at hSw); go_simp; (first | done | with_reducible rfl)
          (try simp only [List.getElem_toArray, List.getElem_cons_succ, List.getElem_cons_zero, Act.put, List.setIfInBounds_toArray, List.set_cons_zero, List.set_cons_succ])
          refine wpT_take (i := 4) (v := ?_) rfl (by kernel_rfl) (by decide) (by kernel_rfl) (by kernel_rfl) (by kernel_rfl) (fun _ _ _ h => h) (Or.inl ⟨by rfl, ?_⟩) (by assumption) ?_
          rotate_left
          · intro w9 hSw; (try dsimp only at hSw); go_simp; (first | done | with_reducible rfl)
          (try simp only [List.getElem_toArray, List.getElem_cons_succ, List.getElem_cons_zero, Act.put, List.setIfInBounds_toArray, List.set_cons_zero, List.set_cons_succ])
          refine wpT_take (i := 5) (v := ?_) rfl (by kernel_rfl) (by decide) (by kernel_rfl) (by kernel_rfl) (by kernel_rfl) (fun _ _ _ h => h) (Or.inl ⟨by rfl, ?_⟩) (by assumption) ?_
          rotate_left
          · intro w9 hSw; (try dsimp only at hSw); go_simp; (first | done | with_reducible rfl)
          (try simp only [List.getElem_toArray, List.getElem_cons_succ, List.getElem_cons_zero, Act.put, List.setIfInBounds_toArray, List.set_cons_zero, List.set_cons_succ])
          refine wpT_take (i := 6) (v := ?_) rfl (by kernel_rfl) (by decide) (by kernel_rfl) (by kernel_rfl) (by kernel_rfl) (fun _ _ _ h => h) (Or.inl ⟨by rfl, ?_⟩) (by assumption) ?_
          rotate_left
          · intro w9 hSw; (try dsimp only at hSw); go_simp; (first | done | with_reducible rfl)
          (try simp only [List.getElem_toArray, List.getElem_cons_succ, List.getElem_cons_zero, Act.put, List.setIfInBounds_toArray, List.set_cons_zero, List.set_cons_succ])
          refine wpT_take (i := 7) (v := ?_) rfl (by kernel_rfl) (by decide) (by kernel_rfl) (by kernel_rfl) (by kernel_rfl) (fun _ _ _ h => h) (Or.inl ⟨by rfl, ?_⟩) (by assumption) ?_
          rotate_left
          · intro w9 hSw; (try dsimp only at hSw); go_simp; (first | done | with_reducible rfl)
          (try simp only [List.getElem_toArray, List.getElem_cons_succ, List.getElem_cons_zero, Act.put, List.setIfInBounds_toArray, List.set_cons_zero, List.set_cons_succ])
          refine wpT_take (i := 8) (v := ?_) rfl (by kernel_rfl) (by decide) (by kernel_rfl) (by kernel_rfl) (by kernel_rfl) (fun _ _ _ h => h) (Or.inl ⟨by rfl, ?_⟩) (by assumption) ?_
          rotate_left
          · intro w9 hSw; (try dsimp only at hSw); go_simp; (first | done | with_reducible rfl)
          (try simp only [List.getElem_toArray, List.getElem_cons_succ, List.getElem_cons_zero, Act.put, List.setIfInBounds_toArray, List.set_cons_zero, List.set_cons_succ])
          refine wpT_take (i := 9) (v := ?_) rfl (by kernel_rfl) (by decide) (by kernel_rfl) (by kernel_rfl) (by kernel_rfl) (fun _ _ _ h => h) (Or.inl ⟨by rfl, ?_⟩) (by assumption) ?_
          rotate_left
          · intro w9 hSw; (try dsimp only at hSw); go_simp; (first | done | with_reducible rfl)
          (try simp only [List.getElem_toArray, List.getElem_cons_succ, List.getElem_cons_zero, Act.put, List.setIfInBounds_toArray, List.set_cons_zero, List.set_cons_succ])
          refine wpT_take (i := 10) (v := ?_) rfl (by kernel_rfl) (by decide) (by kernel_rfl) (by kernel_rfl) (by kernel_rfl) (fun _ _ _ h => h) (Or.inl ⟨by rfl, ?_⟩) (by assumption) ?_
          rotate_left
          · intro w9 hSw; (try dsimp only at hSw); go_simp; (first | done | with_reducible rfl)
          (try simp only [List.getElem_toArray, List.getElem_cons_succ, List.getElem_cons_zero, Act.put, List.setIfInBounds_toArray, List.set_cons_zero, List.set_cons_succ])
          refine wpT_take (i := 11) (v := ?_) rfl (by kernel_rfl) (by decide) (by kernel_rfl) (by kernel_rfl) (by kernel_rfl) (fun _ _ _ h => h) (Or.inl ⟨by rfl, ?_⟩) (by assumption) ?_
          rotate_left
          · intro w9 hSw; (try dsimp only at hSw); go_simp; (first | done | with_reducible rfl)
          (try simp only [List.getElem_toArray, List.getElem_cons_succ, List.getElem_cons_zero, Act.put, List.setIfInBounds_toArray, List.set_cons_zero, List.set_cons_succ])
          refine wpT_take (i := 12) (v := ?_) rfl (by kernel_rfl) (by decide) (by kernel_rfl) (by kernel_rfl) (by kernel_rfl) (fun _ _ _ h => h) (Or.inl ⟨by rfl, ?_⟩) (by assumption) ?_
          rotate_left
          · intro w9 hSw; (try dsimp only at hSw); go_simp; (first | done | with_reducible rfl)
          (try simp only [List.getElem_toArray, List.getElem_cons_succ, List.getElem_cons_zero, Act.put, List.setIfInBounds_toArray, List.set_cons_zero, List.set_cons_succ])
          refine wpT_take (i := 13) (v := ?_) rfl (by kernel_rfl) (by decide) (by kernel_rfl) (by kernel_rfl) (by kernel_rfl) (fun _ _ _ h => h) (Or.inl ⟨by rfl, ?_⟩) (by assumption) ?_
          rotate_left
          · intro w9 hSw; (try dsimp only at hSw); go_simp; (first | done | with_reducible rfl)
          (try simp only [List.getElem_toArray, List.getElem_cons_succ, List.getElem_cons_zero, Act.put, List.setIfInBounds_toArray, List.set_cons_zero, List.set_cons_succ])
          refine wpT_step (i := 14) (by kernel_rfl) (by decide) rfl (fun K hK => ?_)
          go_simp
          refine (l1Copy_c _ x.2 _ (rowC.vext HV.out hHeld.2.2.2.2.2.2.2) (by omega)).mono ?_
          rintro e w2 ⟨u2, rfl, hE2, hO2⟩
          have hEw : Ext wr w2 := Ext.trans (by repeat (first | with_reducible exact Ext.refl _ | with_reducible assumption | with_reducible refine Ext.pAlloc ?_ _ | ((with_reducible refine Ext.pSet ?_ ?_ _); rotate_left; (simp <;> omega)) | with_reducible refine Ext.pDrew ?_ | with_reducible refine Ext.pDrewN ?_ _)) hE2
          obtain ⟨ua2, uc2, rfl⟩ := u_slice hO2.view
          have hz2 := hEw.size
          (try go_wp2_with fail)
          refine hK.out _ _ ?_ (fun hHeld2 => ?_)
          · (try dsimp only); (obtain ⟨s0, s1, s2, s3, s4, s5, s6, s7⟩ := hHeld; exact ⟨cell_ext s0 hE2, cell_ext s1 hE2, cell_ext s2 hE2, cell_ext s3 hE2, Bx.ext s4 hE2, Bx.ext s5 hE2, Bx.ext s6 hE2, s7.trans hE2⟩)
          clear hK K hHeld
          rename _ => hHeld
          (try simp only [List.getElem_toArray, List.getElem_cons_succ, List.getElem_cons_zero, Act.put, List.setIfInBounds_toArray, List.set_cons_zero, List.set_cons_succ])
          refine wpT_take (i := 15) (v := ?_) rfl (by kernel_rfl) (by decide) (by kernel_rfl) (by kernel_rfl) (by kernel_rfl) (fun _ _ _ h => h) (Or.inl ⟨by rfl, ?_⟩) (by assumption) ?_
          rotate_left
          · intro w9 hSw; (try dsimp only at hSw); go_simp; (first | done | with_reducible rfl)
          (try simp only [List.getElem_toArray, List.getElem_cons_succ, List.getElem_cons_zero, Act.put, List.setIfInBounds_toArray, List.set_cons_zero, List.set_cons_succ])
          refine wpT_step (i := 16) (by kernel_rfl) (by decide) rfl (fun K hK => ?_)
          go_simp
          refine hK.out _ _ ?_ (fun hHeld2 => ?_)
          · (try dsimp only); (obtain ⟨s0, s1, s2, s3, s4, s5, s6, s7⟩ := hHeld; exact ⟨cell_ext s0 (Ext.alloc _ _), cell_ext s1 (Ext.alloc _ _), cell_ext s2 (Ext.alloc _ _), cell_ext s3 (Ext.alloc _ _), Bx.ext s4 (Ext.alloc _ _), Bx.ext s5 (Ext.alloc _ _), Bx.ext s6 (Ext.alloc _ _), s7.trans (Ext.alloc _ _)⟩)
          clear hK K hHeld
          rename _ => hHeld
          (try simp only [List.getElem_toArray, List.getElem_cons_succ, List.getElem_cons_zero, Act.put, List.setIfInBounds_toArray, List.set_cons_zero, List.set_cons_succ])
          refine wpT_step (i := 17) (by kernel_rfl) (by decide) rfl (fun K hK => ?_)
          rw [if_pos (by rfl)]
          refine opwp_snocC (R := writeC) _ _ _ (by rfl) 59 _ 32 Try.underlying30 Hinf.out (by rfl) (O_w.ext (hEw.trans (Ext.alloc _ _))) (by rfl) (write_own.2 ⟨_, rfl, hO2.ext (Ext.alloc _ _)⟩) (by first | omega | (simp <;> omega)) (by first | omega | (simp <;> omega)) (by first | omega | (simp <;> omega)) _ _ (by rfl) (CellsAt.lit _ _ _) (by rw [List.length_take]; omega) ?_
          rintro v4 w4 ⟨a4, c4, rfl⟩ hO4 hC4
          simp only [List.length_take, Nat.min_eq_left hk] at hO4 ⊢
          have O_k4 := (O_k.ext (hEw.trans (Ext.alloc _ _))).chg hC4 (by omega)
          have z4 := hC4.size
          refine hK.out _ _ ?_ (fun hHeld2 => ?_)
          · (try dsimp only); (obtain ⟨s0, s1, s2, s3, s4, s5, s6, s7⟩ := hHeld; exact ⟨cell_chg s0 hC4 (by omega), cell_chg s1 hC4 (by omega), cell_chg s2 hC4 (by omega), cell_chg s3 hC4 (by omega), Bx.chg s4 hC4 (by omega), Bx.chg s5 hC4 (by omega), Bx.chg s6 hC4 (by omega), Chg.ext s7 hC4 (by omega)⟩)
          clear hK K hHeld
          rename _ => hHeld
          (try simp only [List.getElem_toArray, List.getElem_cons_succ, List.getElem_cons_zero, Act.put, List.setIfInBounds_toArray, List.set_cons_zero, List.set_cons_succ])
          refine wpT_take (i := 18) (v := ?_) rfl (by kernel_rfl) (by decide) (by kernel_rfl) (by kernel_rfl) (by kernel_rfl) (fun _ _ _ h => h) (Or.inl ⟨by rfl, ?_⟩) (by assumption) ?_
          rotate_left
          · intro w9 hSw; (try dsimp only at hSw); go_simp; (first | done | with_reducible rfl)
          (try simp only [List.getElem_toArray, List.getElem_cons_succ, List.getElem_cons_zero, Act.put, List.setIfInBounds_toArray, List.set_cons_zero, List.set_cons_succ])
          refine wpT_last (by kernel_rfl) (by kernel_rfl) rfl (fun K hK => ?_)
          obtain ⟨e0, e1, e2, e3, e4, e5, e6, e7⟩ := hHeld
          have n4 := e6.lt
          clear c0 c1 hcw0 hcw1
          have c3 := e6.cell 1 _ rfl; have f3 := e6.fr
          clear e0 e1 e2 e3
          go_simp
          refine hK.out _ _ ?_
          clear hK K
          go_wp2
          go_roundw
          case rel =>
            refine ⟨k + 1, .slice a4 (k + 1) c4, by omega, by go_num, ⟨_, _, rfl⟩, by repeat (first | with_reducible assumption | with_reducible exact Bx.new _ _ _ _ rfl | ((with_reducible refine Bx.new _ _ _ _ ?_); simp; done) | with_reducible refine Bx.pAlloc ?_ _ | with_reducible refine Bx.pDrew ?_ | with_reducible refine Bx.pDrewN ?_ _ | with_reducible apply Bx.set10 | with_reducible apply Bx.set20 | with_reducible apply Bx.set21 | with_reducible apply Bx.set30 | with_reducible apply Bx.set31 | with_reducible apply Bx.set32 | with_reducible apply Bx.set40 | with_reducible apply Bx.set41 | with_reducible apply Bx.set42 | with_reducible apply Bx.set43 | ((with_reducible refine Bx.set_other ?_ ?_ _); rotate_left; (simp <;> omega))), by repeat (first | with_reducible assumption | with_reducible exact Bx.new _ _ _ _ rfl | ((with_reducible refine Bx.new _ _ _ _ ?_); simp; done) | with_reducible refine Bx.pAlloc ?_ _ | with_reducible refine Bx.pDrew ?_ | with_reducible refine Bx.pDrewN ?_ _ | with_reducible apply Bx.set10 | with_reducible apply Bx.set20 | with_reducible apply Bx.set21 | with_reducible apply Bx.set30 | with_reducible apply Bx.set31 | with_reducible apply Bx.set32 | with_reducible apply Bx.set40 | with_reducible apply Bx.set41 | with_reducible apply Bx.set42 | with_reducible apply Bx.set43 | ((with_reducible refine Bx.set_other ?_ ?_ _); rotate_left; (simp <;> omega))), by repeat (first | with_reducible assumption | with_reducible exact Bx.new _ _ _ _ rfl | ((with_reducible refine Bx.new _ _ _ _ ?_); simp; done) | with_reducible refine Bx.pAlloc ?_ _ | with_reducible refine Bx.pDrew ?_ | with_reducible refine Bx.pDrewN ?_ _ | with_reducible apply Bx.set10 | with_reducible apply Bx.set20 | with_reducible apply Bx.set21 | with_reducible apply Bx.set30 | with_reducible apply Bx.set31 | with_reducible apply Bx.set32 | with_reducible apply Bx.set40 | with_reducible apply Bx.set41 | with_reducible apply Bx.set42 | with_reducible apply Bx.set43 | ((with_reducible refine Bx.set_other ?_ ?_ _); rotate_left; (simp <;> omega))), by repeat (first | with_reducible assumption | with_reducible refine Cd.own.pAlloc ?_ _ | with_reducible refine Cd.own.pDrew ?_ | with_reducible refine Cd.own.pDrewN ?_ _ | ((with_reducible refine Cd.own.pSet ?_ ?_ _); rotate_left; (simp <;> omega))), ?_, by repeat (first | with_reducible exact Ext.refl _ | with_reducible assumption | with_reducible refine Ext.pAlloc ?_ _ | ((with_reducible refine Ext.pSet ?_ ?_ _); rotate_left; (simp <;> omega)) | with_reducible refine Ext.pDrew ?_ | with_reducible refine Ext.pDrewN ?_ _), by simp at z4 ⊢; omega⟩
            rw [take_snoc hx]; exact Cd.own.wide (own_set hO4 (by simp; omega) _) (Nat.le_refl _) (by simp [World.setCell])
          case measure => simp [intOf]; omega
        · have he : k = ws.length := by omega
          subst he
          rw [List.take_length] at O_w
          have c0 := B_d.cell 1 _ rfl
          have n0 := B_d.lt
          have c2 := B_o.cell 0 _ rfl
          have c3 := B_o.cell 1 _ rfl
          have d0 := B_r.cell 0 _ rfl
          have d1 := B_r.cell 1 _ rfl
          have f1 := B_r.fr
          have n1 := B_r.lt
          go_wp2
          refine bodyPost_ret (v := .agg #[.slice va rs.length vc, .slice wa ws.length wc]) (by simp [results, Try.results97, go_sem, d0, d1]) rfl ⟨_, _, rfl, ?_, ?_⟩
          · repeat (first | with_reducible exact Ext.refl _ | with_reducible assumption | with_reducible refine Ext.pAlloc ?_ _ | ((with_reducible refine Ext.pSet ?_ ?_ _); rotate_left; (simp <;> omega)) | with_reducible refine Ext.pDrew ?_ | with_reducible refine Ext.pDrewN ?_ _)
          · refine ⟨wo.heap.size, by omega, by simp [World.setCell]; omega, ?_, ?_⟩
            · refine Cd.own.wide (lo := w.heap.size + 3) (hi := wo.heap.size) ?_ (by omega) (Nat.le_refl _)
              repeat (first | with_reducible assumption | with_reducible refine Cd.own.pAlloc ?_ _ | with_reducible refine Cd.own.pDrew ?_ | with_reducible refine Cd.own.pDrewN ?_ _ | ((with_reducible refine Cd.own.pSet ?_ ?_ _); rotate_left; (simp <;> omega)))
            · refine Cd.own.wide (lo := wo.heap.size) (hi := wr.heap.size) ?_ (Nat.le_refl _) (by simp [World.setCell])
              repeat (first | with_reducible assumption | with_reducible refine Cd.own.pAlloc ?_ _ | with_reducible refine Cd.own.pDrew ?_ | with_reducible refine Cd.own.pDrewN ?_ _ | ((with_reducible refine Cd.own.pSet ?_ ?_ _); rotate_left; (simp <;> omega)))

end Go.Proofs.Ytbapomhoipdanaa
