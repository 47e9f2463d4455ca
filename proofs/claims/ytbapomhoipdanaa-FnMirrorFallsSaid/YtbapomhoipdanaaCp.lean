/- Copies of rows and of disks. -/
import Derived.Test.YtbapomhoipdanaaDk4
import Derived.Test.YtbapomhoipdanaaApd
set_option linter.unusedVariables false
set_option linter.unusedSimpArgs false
namespace Go.Proofs.Ytbapomhoipdanaa
open Go.RowKit Go.Sl

/-- A disk that is owned: its rows, and behind them what waits. -/
def diskS (lo hi : Nat) (w : World) (u v : Value) (d : DiskD) : Prop := ∃ mid, lo ≤ mid ∧ mid ≤ hi ∧ rowsC.own lo mid w [u] d.1 ∧ waitC.own mid hi w [v] d.2
theorem diskS.own {lo hi : Nat} {w : World} {u v : Value} {d : DiskD} (h : diskS lo hi w u v d) : diskC.own lo hi w [u, v] d := by
  obtain ⟨mid, h1, h2, h3, h4⟩ := h
  exact prod_own (c := [_]) (d := [_]) h3 h4 h1 h2

set_option maxHeartbeats 1600000 in
set_option maxRecDepth 20000 in
theorem copyRows_c (v : Value) (l : List (List Int)) (w : World) (h : rowsC.V w [v] l) (hs : l.length ≤ 40 ∧ ∀ x ∈ l, x.length ≤ 48) :
    Calls Try.prog 104 #[v] w fun e w' => ∃ v', e = .returned v' ∧ Ext w w' ∧ rowsC.own w.heap.size w'.heap.size w' [v'] l := by
  obtain ⟨a, cap, rfl, h1, h2, hc⟩ := slice_open1 (R := rowC) rfl h
  have hinf : (Try.prog.info? 44).map (fun i => (i.zero, i.size, i.bytes)) = some (some (.slice none 0 0), 1, 24) := by kernel_rfl
  have Hinf := Lib.hid hinf
  have Hs := Lib.hid hs.2
  have hs1 := hs.1
  clear hs hinf h
  go_enter Try.func104, Try.ntmps104
  go_wp2_with (at_make; refine wpList_make_room (R := rowC) _ rfl _ _ _ rfl 44 Try.underlying22 _ 24 Hinf.out l.length rfl rfl ?b ?b2 ?_)
  case b => omega
  case b2 => omega
  intro w1 hO hE
  have HO := Lib.hid hO; clear hO
  go_wp2
  go_loopw [3, 5, 11] (fun v _ i wr => ∃ k : Nat, k ≤ l.length ∧ i = .int .i64 k ∧ Hid (rowsC.own w.heap.size wr.heap.size wr [v] (l.take k)) ∧ (∃ a' c', v = .slice a' k c') ∧ Ext w wr) (fun _ _ i _ => l.length - (intOf i).toNat)
  case atStart => exact ⟨0, Nat.zero_le _, rfl, HO.out, ⟨_, _, rfl⟩, hE⟩
  case round =>
    clear HO hE
    obtain ⟨k, hk, rfl, hO, ⟨a', c', rfl⟩, hE⟩ := hrel
    by_cases hlt : k < l.length
    · obtain ⟨b, off, x, u, rfl, hx, hv, hcell⟩ := hc k hlt
      clear hc
      have hcw := cell_ext hcell hE
      have HV := Lib.hid (rowC.vext hv hE)
      have hlen := Hs.out x (List.mem_of_getElem? hx.out)
      clear hcell hv
      have hsz := hE.size
      go_wp2_with fail
      refine (copyRow_c _ x _ HV.out (by omega)).mono ?_
      rintro e w2 ⟨u', rfl, hE2, hO2⟩
      have hsz2 := hE2.size
      have HO2 := Lib.hid hO2
      obtain ⟨ua, uc, rfl⟩ := u_slice hO2.view
      have HO1 := Lib.hid (hO.out.ext hE2)
      have HE2 := Lib.hid hE2
      clear hO2 hE2 hO
      go_wp2_with (at_builtin; go_loud (refine wpList_snocC (R := rowC) rfl _ _ _ rfl 44 _ 24 Try.underlying22 Hinf.out rfl (HO1.out.ext (Ext.alloc _ _)) rfl (HO2.out.ext (Ext.alloc _ _)) (Nat.le_refl _) hsz (by simp <;> omega) _ _ rfl (CellsAt.lit _ _ _) (by rw [List.length_take]; omega) ?_))
      intro v' w3 a2 c2 hv3 hO3 hC3
      subst hv3
      have HO3 := Lib.hid hO3; clear hO3
      have hE3 : Ext w w3 := Chg.ext (hE.trans (HE2.out.trans (Ext.alloc _ _))) hC3 (Nat.le_refl _)
      go_wp2
      go_roundw
      case rel =>
        exact ⟨k + 1, by omega, by go_num, by rw [take_snoc hx]; exact HO3.out, ⟨_, _, rfl⟩, hE3⟩
      case measure => simp [intOf]; omega
    · have he : k = l.length := by omega
      subst he
      have hO' := hO.out
      rw [List.take_length] at hO'
      go_wp2
      go_ret
      exact ⟨_, rfl, hE, hO'⟩

set_option maxHeartbeats 4000000 in
set_option maxRecDepth 20000 in
theorem copyDisk_c (cs : List Value) (d : DiskD) (w : World) (h : diskC.V w cs d) (hok : diskOk d = true) :
    Calls Try.prog 79 #[.agg cs.toArray] w fun e w' => ∃ u v, e = .returned (.agg #[u, v]) ∧ Ext w w' ∧ diskS w.heap.size w'.heap.size w' u v d := by
  obtain ⟨u, v, rfl, hu, hv⟩ := disk_V.1 h
  obtain ⟨rs, ws⟩ := d
  obtain ⟨z1, z2, z3, z4, z5⟩ := diskOk_rows hok
  simp only at hu hv
  obtain ⟨ua, uc, rfl⟩ := sl_form hu
  obtain ⟨a', cap', rfl, h1', h2', hc'⟩ := slice_open (R := writeC) (by decide) hv
  have HU := Lib.hid hu
  have Z1 := Lib.hid z1
  have Z2 := Lib.hid z2
  have hinf : (Try.prog.info? 59).map (fun i => (i.zero, i.size, i.bytes)) = some (some (.agg #[.int .i64 0, .slice none 0 0]), 2, 32) := by kernel_rfl
  have Hinf := Lib.hid hinf
  clear hu hv h hok z1 z2 hinf
  go_enter Try.func79, Try.ntmps79
  go_wp2_with fail
  refine (copyRows_c _ rs _ (rowsC.vext HU.out (by repeat (first | with_reducible exact Ext.refl _ | with_reducible assumption | with_reducible refine Ext.pAlloc ?_ _ | ((with_reducible refine Ext.pSet ?_ ?_ _); rotate_left; (simp <;> omega)) | with_reducible refine Ext.pDrew ?_ | with_reducible refine Ext.pDrewN ?_ _ | with_reducible refine Ext.trans ?_ (by with_reducible assumption)))) ⟨z4, Z1.out⟩).mono ?_
  rintro e w1 ⟨r1, rfl, hE1, hO1⟩
  obtain ⟨ra, rc, rfl⟩ := sl_form hO1.view
  obtain ⟨hcl, hfz, hz⟩ := hE1.rules
  have c1 : w1.cell? ⟨w.heap.size, 1, none⟩ = some (.slice a' ws.length cap') := by rw [hcl _ _ (by simp <;> omega)]; simp [go_sem]
  have c2 : w1.cell? ⟨w.heap.size + 1, 0, none⟩ = some (.slice none 0 0) := by rw [hcl _ _ (by simp <;> omega)]; simp [go_sem]
  have c3 : w1.cell? ⟨w.heap.size + 1, 1, none⟩ = some (.slice none 0 0) := by rw [hcl _ _ (by simp <;> omega)]; simp [go_sem]
  have f2 : ∀ o, w1.frozen? ⟨w.heap.size + 1, o, none⟩ = false := fun o => by rw [hfz _ _ (by simp <;> omega)]; simp [go_sem]
  have hsz1 : w.heap.size + 2 ≤ w1.heap.size := by have := hz; simp at this; omega
  have n0 : w.heap.size < w1.heap.size := by omega
  have n1 : w.heap.size + 1 < w1.heap.size := by omega
  have HO1 := Lib.hid hO1
  have hX1 : Ext w w1 := (Ext.pAlloc (Ext.pAlloc (Ext.refl _) _) _).trans hE1
  have hX1 := Lib.hid hX1
  have C2 := Lib.hid c2
  have C3 := Lib.hid c3
  have F2 := Lib.hid f2
  clear hcl hfz hz hO1 hE1
  go_wp2
  clear c2 c3 f2
  go_loopw [5, 13] (fun _ i wr => ∃ (k : Nat) (v3 : Value), k ≤ ws.length ∧ i = .int .i64 k ∧ Hid (waitC.own (w1.heap.size + 1) wr.heap.size wr [v3] (ws.take k)) ∧ (∃ a c, v3 = .slice a k c) ∧ Hid (Ext w1 wr) ∧ wr.cell? ⟨w1.heap.size, 0, none⟩ = some (.slice ra rs.length rc) ∧ wr.cell? ⟨w1.heap.size, 1, none⟩ = some v3 ∧ ∀ o, wr.frozen? ⟨w1.heap.size, o, none⟩ = false) (fun _ i _ => ws.length - (intOf i).toNat)
  case atStart => exact ⟨0, .slice none 0 0, Nat.zero_le _, rfl, sl_nil _ _ _, ⟨_, _, rfl⟩, Ext.alloc _ _, by simp [go_sem], by simp [go_sem], fun o => by simp [go_sem]⟩
  case round =>
    clear c1
    obtain ⟨k, v3, hk, rfl, hO, ⟨va, vc, rfl⟩, hE, hB0, hB1, hF⟩ := hrel
    by_cases hlt : k < ws.length
    · obtain ⟨b, off, x, c, rfl, hx, hvx, hcell⟩ := hc' k hlt
      clear hc'
      obtain ⟨y, rfl, hvy⟩ := write_V.1 hvx
      have HV := Lib.hid hvy
      obtain ⟨ya, yc, rfl⟩ := u_slice hvy
      clear hvx hvy
      have hXw := hX1.out.trans hE.out
      have hc0 : wr.cell? ⟨b, off + k * 2, none⟩ = some (.int .i64 x.1) := cell_ext (hcell 0 _ rfl) hXw
      have hc1 : wr.cell? ⟨b, off + k * 2 + 1, none⟩ = some (.slice ya x.2.length yc) := cell_ext (hcell 1 _ rfl) hXw
      clear hcell
      have hlen := Z2.out x (List.mem_of_getElem? hx.out)
      have hsz := hE.out.size
      have n2 : w1.heap.size < wr.heap.size := World.block_lt_of_cell? _ _ hB0
      go_wp2
      refine wp_region_T (S := fun ω => ω.cell? ⟨w1.heap.size, 1, none⟩ = some (.slice va k vc) ∧ ω.cell? ⟨wr.heap.size, 0, none⟩ = some (.int .i64 x.1) ∧ ω.cell? ⟨wr.heap.size, 1, none⟩ = some (.slice ya x.2.length yc) ∧ (∀ o, ω.frozen? ⟨w1.heap.size, o, none⟩ = false) ∧ Ext w1 ω ∧ ω.cell? ⟨w1.heap.size, 0, none⟩ = some (.slice ra rs.length rc)) 11 (by kernel_rfl) ?_ (fun hHeld => ?_) (by decide)
      · (try dsimp only); (refine ⟨?_, ?_, ?_, fun o => ?_, ?_, ?_⟩ <;> first | (simp [go_sem, hB0, hB1, hF, n2]; done) | (have := hE.out; repeat (first | with_reducible exact Ext.refl _ | with_reducible assumption | with_reducible refine Ext.pAlloc ?_ _ | ((with_reducible refine Ext.pSet ?_ ?_ _); rotate_left; (simp <;> omega)) | with_reducible refine Ext.pDrew ?_ | with_reducible refine Ext.pDrewN ?_ _ | with_reducible refine Ext.trans ?_ (by with_reducible assumption))))
      refine wpT_take (i := 0) (v := ?_) rfl (by kernel_rfl) (by decide) (by kernel_rfl) (by kernel_rfl) (by kernel_rfl) (fun _ _ _ h => h) (Or.inl ⟨by rfl, ?_⟩) (by assumption) ?_
      rotate_left
      · intro w9 hSw; (try dsimp only at hSw); go_simp; (first | done | with_reducible rfl)
      (try simp only [List.getElem_toArray, List.getElem_cons_succ, List.getElem_cons_zero, Act.put, List.setIfInBounds_toArray, List.set_cons_zero, List.set_cons_succ])
      refine wpT_take (i := 1) (v := ?_) rfl (by kernel_rfl) (by decide) (by kernel_rfl) (by kernel_rfl) (by kernel_rfl) (fun _ _ _ h => h) (Or.inl ⟨by rfl, ?_⟩) (by assumption) ?_
      rotate_left
      · intro w9 hSw; (try dsimp only at hSw); go_simp; (first | done | with_reducible rfl)
      (try simp only [List.getElem_toArray, List.getElem_cons_succ, List.getElem_cons_zero, Act.put, List.setIfInBounds_toArray, List.set_cons_zero, List.set_cons_succ])
      refine wpT_take (i := 2) (v := ?_) rfl (by kernel_rfl) (by decide) (by kernel_rfl) (by kernel_rfl) (by kernel_rfl) (fun _ _ _ h => h) (Or.inl ⟨by rfl, ?_⟩) (by assumption) ?_
      rotate_left
      · intro w9 hSw; (try dsimp only at hSw); go_simp; (first | done | with_reducible rfl)
      (try simp only [List.getElem_toArray, List.getElem_cons_succ, List.getElem_cons_zero, Act.put, List.setIfInBounds_toArray, List.set_cons_zero, List.set_cons_succ])
      refine wpT_take (i := 3) (v := ?_) rfl (by kernel_rfl) (by decide) (by kernel_rfl) (by kernel_rfl) (by kernel_rfl) (fun _ _ _ h => h) (Or.inl ⟨by rfl, ?_⟩) (by assumption) ?_
      rotate_left
      · intro w9 hSw; (try dsimp only at hSw); go_simp; (first | done | with_reducible rfl)
      (try simp only [List.getElem_toArray, List.getElem_cons_succ, List.getElem_cons_zero, Act.put, List.setIfInBounds_toArray, List.set_cons_zero, List.set_cons_succ])
      refine wpT_take (i := 4) (v := ?_) rfl (by kernel_rfl) (by decide) (by kernel_rfl) (by kernel_rfl) (by kernel_rfl) (fun _ _ _ h => h) (Or.inl ⟨by rfl, ?_⟩) (by assumption) ?_
      rotate_left
      · intro w9 hSw; (try dsimp only at hSw); go_simp; (first | done | with_reducible rfl)
      (try simp only [List.getElem_toArray, List.getElem_cons_succ, List.getElem_cons_zero, Act.put, List.setIfInBounds_toArray, List.set_cons_zero, List.set_cons_succ])
      refine wpT_take (i := 5) (v := ?_) rfl (by kernel_rfl) (by decide) (by kernel_rfl) (by kernel_rfl) (by kernel_rfl) (fun _ _ _ h => h) (Or.inl ⟨by rfl, ?_⟩) (by assumption) ?_
      rotate_left
      · intro w9 hSw; (try dsimp only at hSw); go_simp; (first | done | with_reducible rfl)
      (try simp only [List.getElem_toArray, List.getElem_cons_succ, List.getElem_cons_zero, Act.put, List.setIfInBounds_toArray, List.set_cons_zero, List.set_cons_succ])
      refine wpT_step (i := 6) (by kernel_rfl) (by decide) rfl (fun K hK => ?_)
      go_simp
      refine (copyRow_c _ x.2 _ (rowC.vext HV.out (hX1.out.trans hHeld.2.2.2.2.1)) (by omega)).mono ?_
      rintro e w2 ⟨u2, rfl, hE2, hO2⟩
      have hEw : Ext wr w2 := Ext.trans (by repeat (first | with_reducible exact Ext.refl _ | with_reducible assumption | with_reducible refine Ext.pAlloc ?_ _ | ((with_reducible refine Ext.pSet ?_ ?_ _); rotate_left; (simp <;> omega)) | with_reducible refine Ext.pDrew ?_ | with_reducible refine Ext.pDrewN ?_ _ | with_reducible refine Ext.trans ?_ (by with_reducible assumption))) hE2
      obtain ⟨ua2, uc2, rfl⟩ := u_slice hO2.view
      have HO2 := Lib.hid hO2; clear hO2
      have hz2 := hEw.size
      (try go_wp2_with fail)
      refine hK.out _ _ ?_ (fun hHeld2 => ?_)
      · (try dsimp only); (obtain ⟨s0, s1, s2, s3, s4, s5⟩ := hHeld; exact ⟨cell_ext s0 hE2, cell_ext s1 hE2, cell_ext s2 hE2, fun o => frozen_ext s0 (s3 o) hE2, s4.trans hE2, cell_ext s5 hE2⟩)
      clear hK K hHeld
      rename _ => hHeld
      (try simp only [List.getElem_toArray, List.getElem_cons_succ, List.getElem_cons_zero, Act.put, List.setIfInBounds_toArray, List.set_cons_zero, List.set_cons_succ])
      refine wpT_take (i := 7) (v := ?_) rfl (by kernel_rfl) (by decide) (by kernel_rfl) (by kernel_rfl) (by kernel_rfl) (fun _ _ _ h => h) (Or.inl ⟨by rfl, ?_⟩) (by assumption) ?_
      rotate_left
      · intro w9 hSw; (try dsimp only at hSw); go_simp; (first | done | with_reducible rfl)
      (try simp only [List.getElem_toArray, List.getElem_cons_succ, List.getElem_cons_zero, Act.put, List.setIfInBounds_toArray, List.set_cons_zero, List.set_cons_succ])
      refine wpT_step (i := 8) (by kernel_rfl) (by decide) rfl (fun K hK => ?_)
      go_simp
      refine hK.out _ _ ?_ (fun hHeld2 => ?_)
      · (try dsimp only); (obtain ⟨s0, s1, s2, s3, s4, s5⟩ := hHeld; exact ⟨cell_ext s0 (Ext.alloc _ _), cell_ext s1 (Ext.alloc _ _), cell_ext s2 (Ext.alloc _ _), fun o => frozen_ext s0 (s3 o) (Ext.alloc _ _), s4.trans (Ext.alloc _ _), cell_ext s5 (Ext.alloc _ _)⟩)
      clear hK K hHeld
      rename _ => hHeld
      (try simp only [List.getElem_toArray, List.getElem_cons_succ, List.getElem_cons_zero, Act.put, List.setIfInBounds_toArray, List.set_cons_zero, List.set_cons_succ])
      refine wpT_step (i := 9) (by kernel_rfl) (by decide) rfl (fun K hK => ?_)
      rw [if_pos (by rfl)]
      refine opwp_snocC (R := writeC) _ _ _ (by rfl) 59 _ 32 Try.underlying30 Hinf.out (by rfl) (hO.out.ext (hEw.trans (Ext.alloc _ _))) (by rfl) (write_own.2 ⟨_, rfl, HO2.out.ext (Ext.alloc _ _)⟩) (by first | omega | (simp <;> omega)) (by first | omega | (simp <;> omega)) (by first | omega | (simp <;> omega)) _ _ (by rfl) (CellsAt.lit _ _ _) (by rw [List.length_take]; omega) ?_
      rintro v4 w4 ⟨a4, c4, rfl⟩ hO4 hC4
      simp only [List.length_take, Nat.min_eq_left hk] at hO4 ⊢
      refine hK.out _ _ ?_ (fun hHeld2 => ?_)
      · (try dsimp only); (obtain ⟨s0, s1, s2, s3, s4, s5⟩ := hHeld; exact ⟨cell_chg s0 hC4 (by omega), cell_chg s1 hC4 (by omega), cell_chg s2 hC4 (by omega), fun o => frozen_chg s0 (s3 o) hC4 (by omega), Chg.ext s4 hC4 (by omega), cell_chg s5 hC4 (by omega)⟩)
      clear hK K hHeld
      rename _ => hHeld
      (try simp only [List.getElem_toArray, List.getElem_cons_succ, List.getElem_cons_zero, Act.put, List.setIfInBounds_toArray, List.set_cons_zero, List.set_cons_succ])
      refine wpT_take (i := 10) (v := ?_) rfl (by kernel_rfl) (by decide) (by kernel_rfl) (by kernel_rfl) (by kernel_rfl) (fun _ _ _ h => h) (Or.inl ⟨by rfl, ?_⟩) (by assumption) ?_
      rotate_left
      · intro w9 hSw; (try dsimp only at hSw); go_simp; (first | done | with_reducible rfl)
      (try simp only [List.getElem_toArray, List.getElem_cons_succ, List.getElem_cons_zero, Act.put, List.setIfInBounds_toArray, List.set_cons_zero, List.set_cons_succ])
      refine wpT_last (by kernel_rfl) (by kernel_rfl) rfl (fun K hK => ?_)
      obtain ⟨e0, e1, e2, e3, e4, e5⟩ := hHeld
      have HO4 := Lib.hid hO4; clear hO4 e1 e2
      go_simp
      refine hK.out _ _ ?_
      clear hK K
      go_wp2
      go_roundw
      case rel =>
        refine ⟨k + 1, .slice a4 (k + 1) c4, by omega, by go_num, ?_, ⟨_, _, rfl⟩, Ext.pSet e4 (by simp) _, ?_, ?_, ?_⟩
        · rw [take_snoc hx]; exact Cd.own.wide (own_set HO4.out (by simp) _) (Nat.le_refl _) (by simp [World.setCell])
        · simp [go_sem, e5]
        · simp [go_sem, e0]
        · intro o; simp [go_sem, e3]
      case measure => simp [intOf]; omega
    · have he : k = ws.length := by omega
      subst he
      have hO' := hO.out
      rw [List.take_length] at hO'
      have HO' := Lib.hid hO'; clear hO' hO
      have d2 := cell_ext C2.out hE.out
      have d3 := cell_ext C3.out hE.out
      have g2 : ∀ o, wr.frozen? ⟨w.heap.size + 1, o, none⟩ = false := fun o => frozen_ext C2.out (F2.out o) hE.out
      have hsz := hE.out.size
      go_wp2
      refine bodyPost_ret (v := .agg #[.slice ra rs.length rc, .slice va ws.length vc]) (by simp [results, Try.results79, go_sem, d2, d3]) rfl ⟨_, _, rfl, ?_, ?_⟩
      · have := hX1.out.trans hE.out
        repeat (first | with_reducible exact Ext.refl _ | with_reducible assumption | with_reducible refine Ext.pAlloc ?_ _ | ((with_reducible refine Ext.pSet ?_ ?_ _); rotate_left; (simp <;> omega)) | with_reducible refine Ext.pDrew ?_ | with_reducible refine Ext.pDrewN ?_ _ | with_reducible refine Ext.trans ?_ (by with_reducible assumption))
      · refine ⟨w1.heap.size, by omega, by simp [World.setCell]; omega, ?_, ?_⟩
        · refine Cd.own.wide (lo := w.heap.size + 2) (hi := w1.heap.size) ?_ (by omega) (Nat.le_refl _)
          repeat (refine own_set ?_ (by simp <;> omega) _)
          exact (HO1.out.ext hE.out).wide (by simp) (Nat.le_refl _)
        · repeat (refine own_set ?_ (by simp <;> omega) _)
          exact HO'.out.wide (by omega) (by simp [World.setCell])

end Go.Proofs.Ytbapomhoipdanaa
