/- The draws of two disks: any disks, whole arguments. -/
import Derived.Test.YtbapomhoipdanaaTs
import Derived.Deep.DeepCutAuto
set_option linter.unusedVariables false
set_option linter.unusedSimpArgs false
namespace Go.Proofs.Ytbapomhoipdanaa
open Go.RowKit Go.Sl

set_option maxHeartbeats 8000000 in
set_option maxRecDepth 20000 in
theorem l4DrawAny_c (cb n cap : Nat) (a : Option Addr) (w : World) (hD : DC w cb a n cap) (hb : CodeAt w cb a n) :
    Calls Try.prog 74 #[.pointer (some ⟨cb, 0, none⟩)] w fun e w' => ∃ (u v u' v' : Value) (t : TwoD), e = .returned (.agg #[u, v, u', v']) ∧ twoC.own w.heap.size w'.heap.size w' [u, v, u', v'] t ∧ DC w' cb a n cap ∧ Chg cb (cb + 1) w w' := by
  have hlt := hD.lt
  have HD := Lib.hid hD; have HB := Lib.hid hb
  clear hD hb
  go_enter Try.func74, Try.ntmps74
  go_wp2_with fail
  refine (l4Draw_c cb n cap a _ (HD.out.ext (Ext.alloc _ _)) (HB.out.ext (Ext.alloc _ _))).mono ?_
  rintro e w1 ⟨u0, v0, u1, v1, t0, rfl, hok, O1, hD1, hC1⟩
  have z1 : w.heap.size + 1 ≤ w1.heap.size := by have := hC1.size; (try simp at this); omega
  have B2 : Bx w1 w.heap.size [.slice none 0 0, .slice none 0 0, .slice none 0 0, .slice none 0 0] := Bx.chg (Bx.new _ _ _ _ rfl) hC1 (by omega)
  obtain ⟨⟨pa, pc, rfl⟩, ⟨qa, qc, rfl⟩, ⟨ra, rc, rfl⟩, sa, sc, rfl⟩ := two_formV O1.view
  have HS : Hid (TS a n cap cb w.heap.size w1.heap.size w (w1.alloc (.cells #[.slice pa t0.1.1.length pc, .slice qa t0.1.2.length qc, .slice ra t0.2.1.length rc, .slice sa t0.2.2.length sc] 34)) (.slice pa t0.1.1.length pc) (.slice qa t0.1.2.length qc) (.slice ra t0.2.1.length rc) (.slice sa t0.2.2.length sc) t0) := by
    refine Lib.hid ⟨hD1.ext (Ext.alloc _ _), (((Ext.alloc _ _).chg _ _).trans hC1).trans ((Ext.alloc _ _).chg _ _), B2.ext (Ext.alloc _ _), Bx.new _ _ _ _ rfl, ?_, by omega⟩
    obtain ⟨fp, h1, h2, h3⟩ := O1.pAlloc (.cells #[.slice pa t0.1.1.length pc, .slice qa t0.1.2.length qc, .slice ra t0.2.1.length rc, .slice sa t0.2.2.length sc] 34)
    exact ⟨fp, h1, h2, fun b hb => by have := h3 b hb; simp at this; omega⟩
  clear O1 hD1 hC1 B2 hok
  go_wp2_with fail
  refine (l1Once_c cb n cap a 8 _ (by omega) HS.out.dc (HB.out.chg HS.out.chg)).mono ?_
  rintro e w2 ⟨q, rfl, hD, hC⟩
  replace HS := Lib.hid (HS.out.dice hC hD)
  clear hD hC
  cases q
  · have c0 := HS.out.box.cell 0 _ rfl; have c1 := HS.out.box.cell 1 _ rfl; have c2 := HS.out.box.cell 2 _ rfl; have c3 := HS.out.box.cell 3 _ rfl
    have r0 := HS.out.res.cell 0 _ rfl; have r1 := HS.out.res.cell 1 _ rfl; have r2 := HS.out.res.cell 2 _ rfl; have r3 := HS.out.res.cell 3 _ rfl; have rf := HS.out.res.fr; have rl := HS.out.res.lt
    have HR := Lib.hid HS.out.ret
    have k0 := HR.out.2.2.2.cell 0 _ rfl; have k1 := HR.out.2.2.2.cell 1 _ rfl; have k2 := HR.out.2.2.2.cell 2 _ rfl; have k3 := HR.out.2.2.2.cell 3 _ rfl
    go_wp2
    refine bodyPost_ret (v := .agg #[.slice pa t0.1.1.length pc, .slice qa t0.1.2.length qc, .slice ra t0.2.1.length rc, .slice sa t0.2.2.length sc]) (by simp [results, Try.results74, go_sem, k0, k1, k2, k3]) rfl ⟨_, _, _, _, t0, rfl, HR.out.1, HR.out.2.1, HR.out.2.2.1⟩
  · go_wp2_with fail
    refine (l3DrawAny_c cb n cap a _ HS.out.dc (HB.out.chg HS.out.chg)).mono ?_
    rintro e w3 ⟨u9, v9, d9, rfl, O9, hD, hC⟩
    obtain ⟨⟨ra9, rc9, rfl⟩, sa9, sc9, rfl⟩ := disk_form O9
    have l2 := HS.out.size; have zb := HS.out.lt
    have HS3 := Lib.hid (HS.out.dice hC hD)
    have HPB := Lib.hid (HS.out.putB' HS3.out hC O9 (Nat.le_refl _))
    clear O9 hD hC
    have b0 := HS3.out.box.cell 0 _ rfl; have b1 := HS3.out.box.cell 1 _ rfl; have b2 := HS3.out.box.cell 2 _ rfl; have b3 := HS3.out.box.cell 3 _ rfl; have bf := HS3.out.box.fr; have bl := HS3.out.box.lt
    go_upto_region 4 with fail
    clear b0 b1 b2 b3 bf bl HS3 HS
    generalize ((w3.setCell ⟨w1.heap.size, 2, none⟩ (.slice ra9 d9.1.length rc9)).setCell ⟨w1.heap.size, 3, none⟩ (.slice sa9 d9.2.length sc9)) = wz at *
    have c0 := HPB.out.box.cell 0 _ rfl; have c1 := HPB.out.box.cell 1 _ rfl; have c2 := HPB.out.box.cell 2 _ rfl; have c3 := HPB.out.box.cell 3 _ rfl
    have r0 := HPB.out.res.cell 0 _ rfl; have r1 := HPB.out.res.cell 1 _ rfl; have r2 := HPB.out.res.cell 2 _ rfl; have r3 := HPB.out.res.cell 3 _ rfl; have rf := HPB.out.res.fr; have rl := HPB.out.res.lt
    have HR := Lib.hid HPB.out.ret
    have k0 := HR.out.2.2.2.cell 0 _ rfl; have k1 := HR.out.2.2.2.cell 1 _ rfl; have k2 := HR.out.2.2.2.cell 2 _ rfl; have k3 := HR.out.2.2.2.cell 3 _ rfl
    go_wp2
    refine bodyPost_ret (v := .agg #[.slice pa t0.1.1.length pc, .slice qa t0.1.2.length qc, .slice ra9 d9.1.length rc9, .slice sa9 d9.2.length sc9]) (by simp [results, Try.results74, go_sem, k0, k1, k2, k3]) rfl ⟨_, _, _, _, (t0.1, d9), rfl, HR.out.1, HR.out.2.1, HR.out.2.2.1⟩

set_option maxHeartbeats 1600000 in
set_option maxRecDepth 20000 in
theorem drawBothFallen_c (n cap : Nat) (a : Option Addr) (w : World) (hn : n ≤ 1000000) (hb : ∀ j, j < n → ∃ (b off : Nat) (x : Int), a = some ⟨b, off, none⟩ ∧ w.cell? ⟨b, off + j, none⟩ = some (.int .u8 x)) :
    Calls Try.prog 35 #[.slice a n cap] w fun e w' => ∃ (u v u' v' : Value) (t : TwoD) (fv : Value) (fates : List Int), e = .returned (.tuple #[.agg #[u, v, u', v'], fv]) ∧ fates.length ≤ 8 ∧ twoC.V w' [u, v, u', v'] t ∧ rowC.V w' [fv] fates ∧ Ext w w' := by
  have hlw : ∀ b o x, w.cell? ⟨b, o, none⟩ = some x → b < w.heap.size := fun b o x h => World.block_lt_of_cell? w _ h
  go_enter Try.func35, Try.ntmps35
  go_wp2_with fail
  refine (l1New_c n cap a _ hn (fun j hj => by obtain ⟨b, off, x, e, hc⟩ := hb j hj; exact ⟨b, off, x, e, cell_ext hc (Ext.alloc _ _)⟩)).mono ?_
  rintro e w1 ⟨cb, rfl, hcb, hD1, hb1, X1⟩
  have hz : w.heap.size + 1 ≤ cb := by simpa using hcb
  have hB1 := (Bx.new w #[.slice none 0 0, .slice none 0 0, .slice none 0 0, .slice none 0 0] 34 w.heap.size rfl).ext X1
  have HX1 := Lib.hid ((Ext.alloc _ _).trans X1)
  have HD1 := Lib.hid hD1; have HB1 := Lib.hid hb1
  have hlt := hD1.lt
  clear hcb hD1 hb1 X1
  go_wp2_with fail
  refine (l4DrawAny_c cb n cap a _ HD1.out HB1.out).mono ?_
  rintro e w2 ⟨u0, v0, u1, v1, t, rfl, O2, hD2, hC2⟩
  obtain ⟨⟨pa, pc, rfl⟩, ⟨qa, qc, rfl⟩, ⟨ra, rc, rfl⟩, sa, sc, rfl⟩ := two_formV O2.view
  have z1 := HX1.out.size; have z2 := hC2.size
  have HH : Hid (DC (w2.alloc (.cells #[.slice pa t.1.1.length pc, .slice qa t.1.2.length qc, .slice ra t.2.1.length rc, .slice sa t.2.2.length sc] 34)).drew cb a n cap ∧ CodeAt (w2.alloc (.cells #[.slice pa t.1.1.length pc, .slice qa t.1.2.length qc, .slice ra t.2.1.length rc, .slice sa t.2.2.length sc] 34)).drew cb a n ∧ Bx (w2.alloc (.cells #[.slice pa t.1.1.length pc, .slice qa t.1.2.length qc, .slice ra t.2.1.length rc, .slice sa t.2.2.length sc] 34)).drew w.heap.size [.slice none 0 0, .slice none 0 0, .slice none 0 0, .slice none 0 0] ∧ Ext w (w2.alloc (.cells #[.slice pa t.1.1.length pc, .slice qa t.1.2.length qc, .slice ra t.2.1.length rc, .slice sa t.2.2.length sc] 34)).drew ∧ twoC.own w1.heap.size w2.heap.size (w2.alloc (.cells #[.slice pa t.1.1.length pc, .slice qa t.1.2.length qc, .slice ra t.2.1.length rc, .slice sa t.2.2.length sc] 34)).drew [.slice pa t.1.1.length pc, .slice qa t.1.2.length qc, .slice ra t.2.1.length rc, .slice sa t.2.2.length sc] t) :=
    Lib.hid ⟨(hD2.ext (Ext.alloc _ _)).ext (Ext.drew _), ((HB1.out.chg hC2).ext (Ext.alloc _ _)).ext (Ext.drew _), ((hB1.chg hC2 (by omega)).pAlloc _).pDrew, ((Chg.ext HX1.out hC2 (by omega)).trans (Ext.alloc _ _)).trans (Ext.drew _), (O2.pAlloc _).pDrew⟩
  have lb := hB1.lt
  have hBx : Bx (w2.alloc (.cells #[.slice pa t.1.1.length pc, .slice qa t.1.2.length qc, .slice ra t.2.1.length rc, .slice sa t.2.2.length sc] 34)) w2.heap.size [.slice pa t.1.1.length pc, .slice qa t.1.2.length qc, .slice ra t.2.1.length rc, .slice sa t.2.2.length sc] := Bx.new _ _ _ _ rfl
  have c0 := hBx.cell 0 _ rfl; have c1 := hBx.cell 1 _ rfl; have c2 := hBx.cell 2 _ rfl; have c3 := hBx.cell 3 _ rfl
  clear hC2 O2 hD2 hB1 HX1 HD1 HB1 hBx
  go_wp2
  refine wp_region_T (S := fun ω => ω.cell? ⟨w2.heap.size, 0, none⟩ = some (.slice pa t.1.1.length pc) ∧ ω.cell? ⟨w2.heap.size, 1, none⟩ = some (.slice qa t.1.2.length qc) ∧ ω.cell? ⟨w2.heap.size, 2, none⟩ = some (.slice ra t.2.1.length rc) ∧ ω.cell? ⟨w2.heap.size, 3, none⟩ = some (.slice sa t.2.2.length sc)) 4 (by kernel_rfl) ?_ (fun hHeld => ?_) (by decide)
  · (try dsimp only); exact ⟨c0, c1, c2, c3⟩
  refine wpT_take (i := 0) (v := ?_) rfl (by kernel_rfl) (by decide) (by kernel_rfl) (by kernel_rfl) (by kernel_rfl) (fun _ _ _ h => h) (Or.inl ⟨by rfl, ?_⟩) (by assumption) ?_
  rotate_left
  · intro w9 hSw; (try dsimp only at hSw); go_simp; (first | done | with_reducible rfl)
  (try simp only [List.getElem_toArray, List.getElem_cons_succ, List.getElem_cons_zero, Act.put, List.setIfInBounds_toArray, List.set_cons_zero, List.set_cons_succ])
  refine wpT_take (i := 1) (v := ?_) rfl (by kernel_rfl) (by decide) (by kernel_rfl) (by kernel_rfl) (by kernel_rfl) (fun _ _ _ h => h) (Or.inl ⟨by rfl, ?_⟩) (by assumption) ?_
  rotate_left
  · intro w9 hSw; (try dsimp only at hSw); go_simp; (first | done | with_reducible rfl)
  (try simp only [List.getElem_toArray, List.getElem_cons_succ, List.getElem_cons_zero, Act.put, List.setIfInBounds_toArray, List.set_cons_zero, List.set_cons_succ])
  refine wpT_step (i := 2) (by kernel_rfl) (by decide) rfl (fun K hK => ?_)
  go_simp
  refine (l3DrawFates_c cb n cap a _ HH.out.1 HH.out.2.1).mono ?_
  rintro e w3 ⟨fv, row, rfl, hrl, O3, hD, hC⟩
  obtain ⟨fa, fc, rfl, -, -, -⟩ := row_open O3.view
  have z3 := hC.size
  (try simp at z3)
  have HB3 := Lib.hid (HH.out.2.2.1.chg hC (by omega))
  have HX3 := Lib.hid (Chg.ext HH.out.2.2.2.1 hC (by omega))
  have HO3 := Lib.hid (HH.out.2.2.2.2.chg hC (by omega))
  have HR3 := Lib.hid O3
  clear O3
  (try go_wp2_with fail)
  refine hK.out _ _ ?_ (fun hHeld2 => ?_)
  · (try dsimp only); (obtain ⟨s0, s1, s2, s3⟩ := hHeld; exact ⟨cell_chg s0 hC (by omega), cell_chg s1 hC (by omega), cell_chg s2 hC (by omega), cell_chg s3 hC (by omega)⟩)
  clear hK K hHeld
  rename _ => hHeld
  (try simp only [List.getElem_toArray, List.getElem_cons_succ, List.getElem_cons_zero, Act.put, List.setIfInBounds_toArray, List.set_cons_zero, List.set_cons_succ])
  refine wpT_step (i := 3) (by kernel_rfl) (by decide) rfl (fun K hK => ?_)
  clear hC hD c0 c1 c2 c3
  have r0 := HB3.out.cell 0 _ rfl; have r1 := HB3.out.cell 1 _ rfl; have r2 := HB3.out.cell 2 _ rfl; have r3 := HB3.out.cell 3 _ rfl; have rf := HB3.out.fr; have rl := HB3.out.lt
  go_simp
  refine hK.out _ _ ?_ (fun hHeld2 => ?_)
  · (try dsimp only); (obtain ⟨s0, s1, s2, s3⟩ := hHeld; have hCg := (put4s w3 w.heap.size (.slice pa t.1.1.length pc) (.slice qa t.1.2.length qc) (.slice ra t.2.1.length rc) (.slice sa t.2.2.length sc)); exact ⟨cell_chg s0 hCg (by omega), cell_chg s1 hCg (by omega), cell_chg s2 hCg (by omega), cell_chg s3 hCg (by omega)⟩)
  clear hK K hHeld
  rename _ => hHeld
  (try simp only [List.getElem_toArray, List.getElem_cons_succ, List.getElem_cons_zero, Act.put, List.setIfInBounds_toArray, List.set_cons_zero, List.set_cons_succ])
  refine wpT_last (by kernel_rfl) (by kernel_rfl) rfl (fun K hK => ?_)
  clear hHeld r0 r1 r2 r3 rf rl
  go_simp
  refine hK.out _ _ ?_
  clear hK K
  have HS : Hid (Chg w.heap.size (w.heap.size + 1) w3 ((((w3.setCell ⟨w.heap.size, 0, none⟩ (.slice pa t.1.1.length pc)).setCell ⟨w.heap.size, 1, none⟩ (.slice qa t.1.2.length qc)).setCell ⟨w.heap.size, 2, none⟩ (.slice ra t.2.1.length rc)).setCell ⟨w.heap.size, 3, none⟩ (.slice sa t.2.2.length sc))) := Lib.hid (put4s w3 w.heap.size (.slice pa t.1.1.length pc) (.slice qa t.1.2.length qc) (.slice ra t.2.1.length rc) (.slice sa t.2.2.length sc))
  have HB4 := Lib.hid (Bx.set43 (Bx.set42 (Bx.set41 (Bx.set40 HB3.out (.slice pa t.1.1.length pc)) (.slice qa t.1.2.length qc)) (.slice ra t.2.1.length rc)) (.slice sa t.2.2.length sc))
  have k0 := HB4.out.cell 0 _ rfl; have k1 := HB4.out.cell 1 _ rfl; have k2 := HB4.out.cell 2 _ rfl; have k3 := HB4.out.cell 3 _ rfl
  go_wp2
  refine bodyPost_ret (v := .tuple #[.agg #[.slice pa t.1.1.length pc, .slice qa t.1.2.length qc, .slice ra t.2.1.length rc, .slice sa t.2.2.length sc], .slice fa row.length fc]) (by simp [results, Try.results35, go_sem, k0, k1, k2, k3]) rfl ⟨_, _, _, _, t, _, row, rfl, hrl, (HO3.out.chg HS.out (by omega)).view, (HR3.out.chg HS.out (by simp; omega)).view, Chg.ext HX3.out HS.out (Nat.le_refl _)⟩

end Go.Proofs.Ytbapomhoipdanaa
