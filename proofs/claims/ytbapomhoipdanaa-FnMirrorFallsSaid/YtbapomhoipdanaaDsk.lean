/- The draws of disks. -/
import Derived.Test.YtbapomhoipdanaaTill2
import Derived.Test.YtbapomhoipdanaaDr6
import Derived.Test.YtbapomhoipdanaaDkp
import Derived.Test.YtbapomhoipdanaaFl2
set_option linter.unusedVariables false
set_option linter.unusedSimpArgs false
namespace Go.Proofs.Ytbapomhoipdanaa
open Go.RowKit Go.Sl

/-- The memory of a draw of a disk: the cursor, the result's box, the disk's box. -/
structure DS (a : Option Addr) (n cap cb b2 b3 : Nat) (w0 w : World) (u v : Value) (d : DiskD) : Prop where
  dc : DC w cb a n cap
  chg : Chg cb (cb + 1) w0 w
  res : Bx w b2 [.slice none 0 0, .slice none 0 0]
  box : Bx w b3 [u, v]
  no : ∃ fp, diskC.O w [u, v] d fp ∧ fp.Nodup ∧ ∀ b ∈ fp, b2 < b ∧ b ≠ b3
  lt : cb < b2 ∧ b2 < b3 ∧ w0.heap.size ≤ b2
section
variable {w0 w w' : World} {a : Option Addr} {n cap cb b2 b3 lo hi : Nat} {u v u' v' : Value} {d d' : DiskD}
theorem DS.view (h : DS a n cap cb b2 b3 w0 w u v d) : diskC.V w [u, v] d := let ⟨_, hO, _⟩ := h.no; diskC.view hO
theorem DS.grow (h : DS a n cap cb b2 b3 w0 w u v d) (he : Ext w w') : DS a n cap cb b2 b3 w0 w' u v d := by
  obtain ⟨fp, h1, h2, h3⟩ := h.no
  exact ⟨h.dc.ext he, h.chg.trans (he.chg _ _), h.res.ext he, h.box.ext he, ⟨fp, diskC.frame h1 (fun b hb => he.block b (diskC.lt h1 b hb)), h2, h3⟩, h.lt⟩
theorem DS.dice (h : DS a n cap cb b2 b3 w0 w u v d) (hC : Chg cb (cb + 1) w w') (hD : DC w' cb a n cap) : DS a n cap cb b2 b3 w0 w' u v d := by
  obtain ⟨fp, h1, h2, h3⟩ := h.no
  have := h.lt
  exact ⟨hD, h.chg.trans hC, h.res.chg hC (by omega), h.box.chg hC (by omega), ⟨fp, diskC.frame h1 (fun b hb => hC.block b (diskC.lt h1 b hb) (by have := h3 b hb; omega)), h2, h3⟩, h.lt⟩
theorem DS.put (h : DS a n cap cb b2 b3 w0 w u v d) (hO : diskC.own lo hi w [u', v'] d') (hlo : b3 < lo) :
    DS a n cap cb b2 b3 w0 ((w.setCell ⟨b3, 0, none⟩ u').setCell ⟨b3, 1, none⟩ v') u' v' d' := by
  have hC : Chg b3 (b3 + 1) w ((w.setCell ⟨b3, 0, none⟩ u').setCell ⟨b3, 1, none⟩ v') := (Chg.setCell w ⟨b3, 0, none⟩ u' (Nat.le_refl _) (Nat.lt_succ_self _)).trans (Chg.setCell _ ⟨b3, 1, none⟩ v' (Nat.le_refl _) (Nat.lt_succ_self _))
  have := h.lt
  obtain ⟨fp, h1, h2, h3⟩ := hO.chg hC (by omega)
  exact ⟨h.dc.far hC (by omega), Chg.new h.chg hC (by omega), h.res.chg hC (by omega), Bx.set21 (Bx.set20 h.box u') v', ⟨fp, h1, h2, fun b hb => by have := h3 b hb; omega⟩, h.lt⟩
theorem DS.size (h : DS a n cap cb b2 b3 w0 w u v d) : b3 < w.heap.size := h.box.lt
/-- The result's box takes the disk. -/
theorem DS.ret (h : DS a n cap cb b2 b3 w0 w u v d) : diskC.own w0.heap.size ((w.setCell ⟨b2, 0, none⟩ u).setCell ⟨b2, 1, none⟩ v).heap.size ((w.setCell ⟨b2, 0, none⟩ u).setCell ⟨b2, 1, none⟩ v) [u, v] d ∧ DC ((w.setCell ⟨b2, 0, none⟩ u).setCell ⟨b2, 1, none⟩ v) cb a n cap ∧ Chg cb (cb + 1) w0 ((w.setCell ⟨b2, 0, none⟩ u).setCell ⟨b2, 1, none⟩ v) ∧ Bx ((w.setCell ⟨b2, 0, none⟩ u).setCell ⟨b2, 1, none⟩ v) b2 [u, v] := by
  have hC : Chg b2 (b2 + 1) w ((w.setCell ⟨b2, 0, none⟩ u).setCell ⟨b2, 1, none⟩ v) := (Chg.setCell w ⟨b2, 0, none⟩ u (Nat.le_refl _) (Nat.lt_succ_self _)).trans (Chg.setCell _ ⟨b2, 1, none⟩ v (Nat.le_refl _) (Nat.lt_succ_self _))
  obtain ⟨fp, h1, h2, h3⟩ := h.no
  have := h.lt
  have h4 := diskC.frame h1 (fun b hb => hC.block b (diskC.lt h1 b hb) (by have := h3 b hb; omega))
  exact ⟨⟨fp, h4, h2, fun b hb => by have := h3 b hb; have := diskC.lt h4 b hb; omega⟩, h.dc.far hC (by omega), Chg.new h.chg hC (by omega), Bx.set21 (Bx.set20 h.res u) v⟩
theorem disk_form {lo hi : Nat} {w : World} {u v : Value} {m : DiskD} (h : diskC.own lo hi w [u, v] m) : (∃ a c, u = .slice a m.1.length c) ∧ ∃ a c, v = .slice a m.2.length c := by
  obtain ⟨u', v', e, hu, hv⟩ := disk_V.1 h.view
  cases e
  obtain ⟨_, _, _, h1, _⟩ := hu
  obtain ⟨_, _, _, h2, _⟩ := hv
  simp only [List.cons.injEq, and_true] at h1 h2
  exact ⟨⟨_, _, h1⟩, _, _, h2⟩
end
theorem diskOk_len {d : DiskD} (h : diskOk d = true) : 1 ≤ d.1.length ∧ d.1.length ≤ 40 ∧ d.2.length ≤ 60 := by
  obtain ⟨rs, ws⟩ := d
  obtain ⟨_, _, h3, h4, h5⟩ := diskOk_parts h
  exact ⟨h3, h4, h5⟩

set_option maxHeartbeats 4000000 in
set_option maxRecDepth 20000 in
theorem l3Draw_c (cb n cap : Nat) (a : Option Addr) (w : World) (hD : DC w cb a n cap) (hb : CodeAt w cb a n) :
    Calls Try.prog 113 #[.pointer (some ⟨cb, 0, none⟩)] w fun e w' => ∃ (u v : Value) (d : DiskD), e = .returned (.agg #[u, v]) ∧ diskOk d = true ∧ diskC.own w.heap.size w'.heap.size w' [u, v] d ∧ DC w' cb a n cap ∧ Chg cb (cb + 1) w w' := by
  have hlt := hD.lt
  have HD := Lib.hid hD; have HB := Lib.hid hb
  clear hD hb
  go_enter Try.func113, Try.ntmps113
  go_wp2_with fail
  refine (l1Below_c cb n cap a 5 _ (by omega) (HD.out.ext (Ext.alloc _ _)) (HB.out.ext (Ext.alloc _ _))).mono ?_
  rintro e w1 ⟨x, hx0, hx1, rfl, hD1, hC1⟩
  have z1 : w.heap.size + 1 ≤ w1.heap.size := by have := hC1.size; (try simp at this); omega
  have B2 : Bx w1 w.heap.size [.slice none 0 0, .slice none 0 0] := Bx.chg (Bx.new _ _ _ _ rfl) hC1 (by omega)
  have hw1 : IntKind.i64.wrap (1 + x) = 1 + x := IntWalk.i64_in _ (by omega)
  have H1 : Hid (DC w1 cb a n cap ∧ Chg cb (cb + 1) w w1 ∧ Bx w1 w.heap.size [.slice none 0 0, .slice none 0 0]) := Lib.hid ⟨hD1, ((Ext.alloc _ _).chg _ _).trans hC1, B2⟩
  clear hD1 hC1 B2
  go_wp2_with fail
  refine (specNewDisk_c (1 + x) _).mono ?_
  rintro e w2 ⟨u0, v0, rfl, X2, O2⟩
  have hok := Lib.hid (diskOk_new (n := 1 + x) (by omega) (by omega))
  have z2 := X2.size
  obtain ⟨⟨pa, pc, rfl⟩, qa, qc, rfl⟩ := disk_form O2
  generalize newDisk (1 + x) = d0 at *
  have HS : Hid (DS a n cap cb w.heap.size w2.heap.size w (w2.alloc (.cells #[.slice pa d0.1.length pc, .slice qa d0.2.length qc] 32)) (.slice pa d0.1.length pc) (.slice qa d0.2.length qc) d0) := by
    refine Lib.hid ⟨(H1.out.1.ext X2).ext (Ext.alloc _ _), H1.out.2.1.trans ((X2.trans (Ext.alloc _ _)).chg _ _), (H1.out.2.2.ext X2).ext (Ext.alloc _ _), Bx.new _ _ _ _ rfl, (by obtain ⟨fp, h1, h2, h3⟩ := O2.pAlloc (.cells #[.slice pa d0.1.length pc, .slice qa d0.2.length qc] 32); exact ⟨fp, h1, h2, fun b hb => by have := h3 b hb; omega⟩), by omega⟩
  clear X2 O2 H1 hw1
  go_wp2_with fail
  refine (l1Below_c cb n cap a 9 _ (by omega) HS.out.dc (HB.out.chg HS.out.chg)).mono ?_
  rintro e w3 ⟨y, hy0, hy1, rfl, hD, hC⟩
  obtain ⟨m, rfl⟩ : ∃ m : Nat, y = m := ⟨y.toNat, by omega⟩
  replace HS := Lib.hid (HS.out.dice hC hD)
  clear hD hC
  go_wp2
  go_loopw [4] (fun v4 wr => ∃ (k : Nat) (pa : Option Addr) (pc : Nat) (qa : Option Addr) (qc : Nat) (d : DiskD), k ≤ 8 ∧ v4 = .int .i64 k ∧ Hid (DS a n cap cb w.heap.size w2.heap.size w wr (.slice pa d.1.length pc) (.slice qa d.2.length qc) d ∧ diskOk d = true)) (fun v4 _ => (intOf v4).toNat)
  case atStart => exact ⟨m, _, _, _, _, d0, by omega, rfl, Lib.hid ⟨HS.out, hok.out⟩⟩
  case round =>
    clear HS hok
    obtain ⟨k, pa, pc, qa, qc, d, hk, rfl, HI⟩ := hrel
    obtain ⟨wq, hwq⟩ : ∃ w, w = wr := ⟨_, rfl⟩
    subst hwq
    have c0 := HI.out.1.box.cell 0 _ rfl; have c1 := HI.out.1.box.cell 1 _ rfl; have zb := HI.out.1.lt; have lb := HI.out.1.size
    by_cases hk0 : 0 < k
    · have hd : decide ((0 : Int) < k) = true := by rw [decide_eq_true_iff]; omega
      have hlen := Lib.hid (diskOk_len HI.out.2)
      have hDr : DS a n cap cb w.heap.size w2.heap.size w wq.drew (.slice pa d.1.length pc) (.slice qa d.2.length qc) d := HI.out.1.grow (Ext.drew _)
      have HDr := Lib.hid hDr
      clear hDr
      go_wp2
      refine wp_region_U (S := fun ω => ω.cell? ⟨w2.heap.size, 0, none⟩ = some (.slice pa d.1.length pc) ∧ ω.cell? ⟨w2.heap.size, 1, none⟩ = some (.slice qa d.2.length qc)) 12 (by kernel_rfl) ?_ (fun hHeld => ?_)
      · (try dsimp only); exact ⟨c0, c1⟩
      refine wpU_take (i := 0) (v := ?_) rfl (by decide) (by kernel_rfl) (by kernel_rfl) (by kernel_rfl) (by kernel_rfl) (fun _ _ _ h => h) (Or.inl ⟨by rfl, ?_⟩) (by assumption) ?_
      rotate_left
      · intro w9 hSw; (try dsimp only at hSw); go_simp; (first | done | with_reducible rfl)
      (try simp only [List.getElem_toArray, List.getElem_cons_succ, List.getElem_cons_zero, Act.put, List.setIfInBounds_toArray, List.set_cons_zero, List.set_cons_succ])
      refine wpU_take (i := 1) (v := ?_) rfl (by decide) (by kernel_rfl) (by kernel_rfl) (by kernel_rfl) (by kernel_rfl) (fun _ _ _ h => h) (Or.inl ⟨by rfl, ?_⟩) (by assumption) ?_
      rotate_left
      · intro w9 hSw; (try dsimp only at hSw); go_simp; (first | done | with_reducible rfl)
      (try simp only [List.getElem_toArray, List.getElem_cons_succ, List.getElem_cons_zero, Act.put, List.setIfInBounds_toArray, List.set_cons_zero, List.set_cons_succ])
      refine wpU_take (i := 2) (v := ?_) rfl (by decide) (by kernel_rfl) (by kernel_rfl) (by kernel_rfl) (by kernel_rfl) (fun _ _ _ h => h) (Or.inl ⟨by rfl, ?_⟩) (by assumption) ?_
      rotate_left
      · intro w9 hSw; (try dsimp only at hSw); go_simp; (first | done | with_reducible rfl)
      (try simp only [List.getElem_toArray, List.getElem_cons_succ, List.getElem_cons_zero, Act.put, List.setIfInBounds_toArray, List.set_cons_zero, List.set_cons_succ])
      refine wpU_take (i := 3) (v := ?_) rfl (by decide) (by kernel_rfl) (by kernel_rfl) (by kernel_rfl) (by kernel_rfl) (fun _ _ _ h => h) (Or.inl ⟨by rfl, ?_⟩) (by assumption) ?_
      rotate_left
      · intro w9 hSw; (try dsimp only at hSw); go_simp; (first | done | with_reducible rfl)
      (try simp only [List.getElem_toArray, List.getElem_cons_succ, List.getElem_cons_zero, Act.put, List.setIfInBounds_toArray, List.set_cons_zero, List.set_cons_succ])
      refine wpU_take (i := 4) (v := ?_) rfl (by decide) (by kernel_rfl) (by kernel_rfl) (by kernel_rfl) (by kernel_rfl) (fun _ _ _ h => h) (Or.inl ⟨by rfl, ?_⟩) (by assumption) ?_
      rotate_left
      · intro w9 hSw; (try dsimp only at hSw); go_simp; (first | done | with_reducible rfl)
      (try simp only [List.getElem_toArray, List.getElem_cons_succ, List.getElem_cons_zero, Act.put, List.setIfInBounds_toArray, List.set_cons_zero, List.set_cons_succ])
      refine wpU_take (i := 6) (v := ?_) rfl (by decide) (by kernel_rfl) (by kernel_rfl) (by kernel_rfl) (by kernel_rfl) (fun _ _ _ h => h) (Or.inl ⟨by rfl, ?_⟩) (by assumption) ?_
      rotate_left
      · intro w9 hSw; (try dsimp only at hSw); go_simp; (first | done | with_reducible rfl)
      (try simp only [List.getElem_toArray, List.getElem_cons_succ, List.getElem_cons_zero, Act.put, List.setIfInBounds_toArray, List.set_cons_zero, List.set_cons_succ])
      refine wpU_step (i := 5) (by kernel_rfl) (by decide) rfl (fun K hK => ?_)
      go_simp
      refine (l1Below_c cb n cap a d.1.length _ (by have := hlen.out; omega) HDr.out.dc (HB.out.chg HDr.out.chg)).mono ?_
      rintro e w5 ⟨x5, hx50, hx51, rfl, hD, hC⟩
      have HS5 := Lib.hid (HDr.out.dice hC hD)
      (try go_wp2_with fail)
      refine hK.out _ _ ?_ (fun hHeld2 => ?_)
      · (try dsimp only); (obtain ⟨s0, s1⟩ := hHeld; exact ⟨cell_chg s0 hC (by omega), cell_chg s1 hC (by omega)⟩)
      clear hK K hHeld
      rename _ => hHeld
      (try simp only [List.getElem_toArray, List.getElem_cons_succ, List.getElem_cons_zero, Act.put, List.setIfInBounds_toArray, List.set_cons_zero, List.set_cons_succ])
      refine wpU_step (i := 7) (by kernel_rfl) (by decide) rfl (fun K hK => ?_)
      clear hC hD
      go_simp
      refine (l1DrawRow_c cb n cap a _ HS5.out.dc (HB.out.chg HS5.out.chg)).mono ?_
      rintro e w6 ⟨rv, row, rfl, hrl, HRW, O6, hD, hC⟩
      obtain ⟨ra, rc, rfl, -, -, -⟩ := row_open O6.view
      have HS6 := Lib.hid (HS5.out.dice hC hD)
      have HO6 := Lib.hid O6
      have l5 := HS5.out.size
      have z6 := hC.size
      clear O6
      (try go_wp2_with fail)
      refine hK.out _ _ ?_ (fun hHeld2 => ?_)
      · (try dsimp only); (obtain ⟨s0, s1⟩ := hHeld; exact ⟨cell_chg s0 hC (by omega), cell_chg s1 hC (by omega)⟩)
      clear hK K hHeld
      rename _ => hHeld
      (try simp only [List.getElem_toArray, List.getElem_cons_succ, List.getElem_cons_zero, Act.put, List.setIfInBounds_toArray, List.set_cons_zero, List.set_cons_succ])
      refine wpU_step (i := 8) (by kernel_rfl) (by decide) rfl (fun K hK => ?_)
      clear hC hD
      go_simp
      refine (specWrote_c _ d x5 _ row _ HS6.out.view HO6.out.view).mono ?_
      rintro e w7 ⟨u7, v7, rfl, X7, O7⟩
      have hok7 := Lib.hid (diskOk_wrote HI.out.2 x5 row)
      obtain ⟨⟨pa7, pc7, rfl⟩, qa7, qc7, rfl⟩ := disk_form O7
      generalize (wrote d x5 row).1 = d7 at *
      generalize (wrote d x5 row).2 = o7 at *
      have HS7 := Lib.hid (HS6.out.grow X7)
      have HO7 := Lib.hid O7
      have z7 := X7.size
      clear O7
      (try go_wp2_with fail)
      refine hK.out _ _ ?_ (fun hHeld2 => ?_)
      · (try dsimp only); (obtain ⟨s0, s1⟩ := hHeld; exact ⟨cell_ext s0 X7, cell_ext s1 X7⟩)
      clear hK K hHeld
      rename _ => hHeld
      (try simp only [List.getElem_toArray, List.getElem_cons_succ, List.getElem_cons_zero, Act.put, List.setIfInBounds_toArray, List.set_cons_zero, List.set_cons_succ])
      refine wpU_take (i := 9) (v := ?_) rfl (by decide) (by kernel_rfl) (by kernel_rfl) (by kernel_rfl) (by kernel_rfl) (fun _ _ _ h => h) (Or.inl ⟨by rfl, ?_⟩) (by assumption) ?_
      rotate_left
      · intro w9 hSw; (try dsimp only at hSw); go_simp; (first | done | with_reducible rfl)
      (try simp only [List.getElem_toArray, List.getElem_cons_succ, List.getElem_cons_zero, Act.put, List.setIfInBounds_toArray, List.set_cons_zero, List.set_cons_succ])
      refine wpU_take (i := 10) (v := ?_) rfl (by decide) (by kernel_rfl) (by kernel_rfl) (by kernel_rfl) (by kernel_rfl) (fun _ _ _ h => h) (Or.inl ⟨by rfl, ?_⟩) (by assumption) ?_
      rotate_left
      · intro w9 hSw; (try dsimp only at hSw); go_simp; (first | done | with_reducible rfl)
      (try simp only [List.getElem_toArray, List.getElem_cons_succ, List.getElem_cons_zero, Act.put, List.setIfInBounds_toArray, List.set_cons_zero, List.set_cons_succ])
      refine wpU_pure (i := 11) (v := ?_) rfl (by decide) (by kernel_rfl) (by kernel_rfl) (by kernel_rfl) (fun _ _ _ h => h) (Or.inl ⟨by rfl, ?_⟩) (by assumption) ?_
      rotate_left
      · intro w9; go_simp; (first | done | with_reducible rfl)
      (try simp only [List.getElem_toArray, List.getElem_cons_succ, List.getElem_cons_zero, Act.put, List.setIfInBounds_toArray, List.set_cons_zero, List.set_cons_succ])
      refine wpU_store (by kernel_rfl) rfl (fun K hK => ?_)
      clear X7 hHeld
      have b0 := HS7.out.box.cell 0 _ rfl; have b1 := HS7.out.box.cell 1 _ rfl; have bf := HS7.out.box.fr; have bl := HS7.out.box.lt
      clear c0 c1
      go_simp
      refine hK.out _ _ ?_
      clear hK K
      (try simp only [List.getElem_toArray, List.getElem_cons_succ, List.getElem_cons_zero, Act.put, List.setIfInBounds_toArray, List.set_cons_zero, List.set_cons_succ])
      refine wpAny_done (by kernel_rfl) ?_ _
      have HS8 := Lib.hid (HS7.out.put HO7.out (by omega))
      clear b0 b1 bf bl HS7 HO7 HS6 HO6 HS5 HDr HI HRW
      generalize ((w7.setCell ⟨w2.heap.size, 0, none⟩ (.slice pa7 d7.1.length pc7)).setCell ⟨w2.heap.size, 1, none⟩ (.slice qa7 d7.2.length qc7)) = wa at *
      have hw : IntKind.i64.wrap ((k : Int) - 1) = ((k - 1 : Nat) : Int) := by rw [show (k : Int) - 1 = ((k - 1 : Nat) : Int) by omega]; exact IntWalk.i64_in _ (by omega)
      go_wp2_with fail
      refine (l1Once_c cb n cap a 3 _ (by omega) HS8.out.dc (HB.out.chg HS8.out.chg)).mono ?_
      rintro e w8 ⟨q, rfl, hD, hC⟩
      replace HS8 := Lib.hid (HS8.out.dice hC hD)
      clear hD hC
      cases q
      · go_wp2
        go_roundw
        case rel => exact ⟨k - 1, _, _, _, _, d7, by omega, by first | rfl | go_num, Lib.hid ⟨HS8.out, hok7.out⟩⟩
        case measure => simp [intOf]; omega
      · have c0 := HS8.out.box.cell 0 _ rfl; have c1 := HS8.out.box.cell 1 _ rfl
        go_wp2_with fail
        refine (specSynced_c _ d7 _ HS8.out.view).mono ?_
        rintro e w9 ⟨u9, v9, rfl, X9, O9⟩
        have hok9 := Lib.hid (diskOk_synced hok7.out)
        obtain ⟨⟨pa9, pc9, rfl⟩, qa9, qc9, rfl⟩ := disk_form O9
        generalize synced d7 = d9 at *
        have HO9 := Lib.hid O9
        have l8 := HS8.out.size
        replace HS8 := Lib.hid (HS8.out.grow X9)
        clear X9 O9 c0 c1
        have c0 := HS8.out.box.cell 0 _ rfl; have c1 := HS8.out.box.cell 1 _ rfl; have bf := HS8.out.box.fr; have bl := HS8.out.box.lt
        go_wp2
        go_roundw
        case rel => exact ⟨k - 1, _, _, _, _, d9, by omega, by first | rfl | go_num, Lib.hid ⟨HS8.out.put HO9.out (by omega), hok9.out⟩⟩
        case measure => simp [intOf]; omega
    · have hd : decide ((0 : Int) < k) = false := by rw [decide_eq_false_iff_not]; omega
      have r0 := HI.out.1.res.cell 0 _ rfl; have r1 := HI.out.1.res.cell 1 _ rfl; have rf := HI.out.1.res.fr; have rl := HI.out.1.res.lt
      have HR := Lib.hid HI.out.1.ret
      have k0 := HR.out.2.2.2.cell 0 _ rfl; have k1 := HR.out.2.2.2.cell 1 _ rfl
      go_wp2
      refine bodyPost_ret (v := .agg #[.slice pa d.1.length pc, .slice qa d.2.length qc]) (by simp [results, Try.results113, go_sem, k0, k1]) rfl ⟨_, _, d, rfl, HI.out.2, HR.out.1, HR.out.2.1, HR.out.2.2.1⟩

end Go.Proofs.Ytbapomhoipdanaa
