/- The draws of whole arguments: disks. -/
import Derived.Test.YtfakjcckgcgalaaDsk2
import Derived.Test.YtfakjcckgcgalaaDsk3
set_option linter.unusedVariables false
set_option linter.unusedSimpArgs false
namespace Go.Proofs.Ytfakjcckgcgalaa
open Go.RowKit Go.Sl

set_option maxHeartbeats 1600000 in
set_option maxRecDepth 20000 in
theorem drawSynced_c (n cap : Nat) (a : Option Addr) (w : World) (hn : n ≤ 1000000) (hb : ∀ j, j < n → ∃ (b off : Nat) (x : Int), a = some ⟨b, off, none⟩ ∧ w.cell? ⟨b, off + j, none⟩ = some (.int .u8 x)) :
    Calls Try.prog 41 #[.slice a n cap] w fun e w' => ∃ (u v : Value) (d : DiskD), e = .returned (.agg #[u, v]) ∧ diskC.V w' [u, v] d ∧ Ext w w' := by
  go_enter Try.func41, Try.ntmps41
  go_wp2_with fail
  refine (l1New_c n cap a _ hn (fun j hj => by obtain ⟨b, off, x, e, hc⟩ := hb j hj; exact ⟨b, off, x, e, cell_ext hc (Ext.alloc _ _)⟩)).mono ?_
  rintro e w1 ⟨cb, rfl, hcb, hD1, hb1, X1⟩
  have hz : w.heap.size + 1 ≤ cb := by simpa using hcb
  have hB1 := (Bx.new w #[.slice none 0 0, .slice none 0 0] 25 w.heap.size rfl).ext X1
  have HX1 := Lib.hid ((Ext.alloc _ _).trans X1)
  have HD1 := Lib.hid hD1; have HB1 := Lib.hid hb1
  clear hcb hD1 hb1 X1
  go_wp2_with fail
  refine (l3DrawAny_c cb n cap a _ HD1.out HB1.out).mono ?_
  rintro e w2 ⟨u, v, d, rfl, O2, hD2, hC2⟩
  obtain ⟨⟨pa, pc, rfl⟩, qa, qc, rfl⟩ := disk_form O2
  have hB2 := hB1.chg hC2 (by omega)
  have z1 := HX1.out.size; have lb := hB1.lt; have z2 := hC2.size
  have HX2 := Lib.hid (Chg.ext HX1.out hC2 (by omega))
  have HO2 := Lib.hid O2
  clear hC2 O2 hD2 hB1 HX1 HD1 HB1
  have hS : Chg w.heap.size (w.heap.size + 1) w2 ((w2.setCell ⟨w.heap.size, 0, none⟩ (.slice pa d.1.length pc)).setCell ⟨w.heap.size, 1, none⟩ (.slice qa d.2.length qc)) := (Chg.setCell w2 ⟨w.heap.size, 0, none⟩ (.slice pa d.1.length pc) (Nat.le_refl _) (Nat.lt_succ_self _)).trans (Chg.setCell _ ⟨w.heap.size, 1, none⟩ (.slice qa d.2.length qc) (Nat.le_refl _) (Nat.lt_succ_self _))
  have HS := Lib.hid hS
  have r0 := hB2.cell 0 _ rfl; have r1 := hB2.cell 1 _ rfl; have rf := hB2.fr; have rl := hB2.lt
  have HB3 := Lib.hid (Bx.set21 (Bx.set20 hB2 (.slice pa d.1.length pc)) (.slice qa d.2.length qc))
  have k0 := HB3.out.cell 0 _ rfl; have k1 := HB3.out.cell 1 _ rfl
  clear hS hB2
  go_wp2
  refine bodyPost_ret (v := .agg #[.slice pa d.1.length pc, .slice qa d.2.length qc]) (by simp [results, Try.results41, go_sem, k0, k1]) rfl ⟨_, _, d, rfl, (HO2.out.chg HS.out (by omega)).view, Chg.ext HX2.out HS.out (Nat.le_refl _)⟩

set_option maxHeartbeats 1600000 in
set_option maxRecDepth 20000 in
theorem drawFallen_c (n cap : Nat) (a : Option Addr) (w : World) (hn : n ≤ 1000000) (hb : ∀ j, j < n → ∃ (b off : Nat) (x : Int), a = some ⟨b, off, none⟩ ∧ w.cell? ⟨b, off + j, none⟩ = some (.int .u8 x)) :
    Calls Try.prog 43 #[.slice a n cap] w fun e w' => ∃ (u v : Value) (d : DiskD) (fv : Value) (fates : List Int), e = .returned (.tuple #[.agg #[u, v], fv]) ∧ fates.length ≤ 8 ∧ diskC.V w' [u, v] d ∧ rowC.V w' [fv] fates ∧ Ext w w' := by
  have hlw : ∀ b o x, w.cell? ⟨b, o, none⟩ = some x → b < w.heap.size := fun b o x h => World.block_lt_of_cell? w _ h
  go_enter Try.func43, Try.ntmps43
  go_wp2_with fail
  refine (l1New_c n cap a _ hn (fun j hj => by obtain ⟨b, off, x, e, hc⟩ := hb j hj; exact ⟨b, off, x, e, cell_ext hc (Ext.alloc _ _)⟩)).mono ?_
  rintro e w1 ⟨cb, rfl, hcb, hD1, hb1, X1⟩
  have hz : w.heap.size + 1 ≤ cb := by simpa using hcb
  have hB1 := (Bx.new w #[.slice none 0 0, .slice none 0 0] 25 w.heap.size rfl).ext X1
  have HX1 := Lib.hid ((Ext.alloc _ _).trans X1)
  have HD1 := Lib.hid hD1; have HB1 := Lib.hid hb1
  have hlt := hD1.lt
  clear hcb hD1 hb1 X1
  go_wp2_with fail
  refine (l3DrawAny_c cb n cap a _ HD1.out HB1.out).mono ?_
  rintro e w2 ⟨u, v, d, rfl, O2, hD2, hC2⟩
  obtain ⟨⟨pa, pc, rfl⟩, qa, qc, rfl⟩ := disk_form O2
  have z1 := HX1.out.size; have z2 := hC2.size
  have HH : Hid (DC (w2.alloc (.cells #[.slice pa d.1.length pc, .slice qa d.2.length qc] 25)).drew cb a n cap ∧ CodeAt (w2.alloc (.cells #[.slice pa d.1.length pc, .slice qa d.2.length qc] 25)).drew cb a n ∧ Bx (w2.alloc (.cells #[.slice pa d.1.length pc, .slice qa d.2.length qc] 25)).drew w.heap.size [.slice none 0 0, .slice none 0 0] ∧ Ext w (w2.alloc (.cells #[.slice pa d.1.length pc, .slice qa d.2.length qc] 25)).drew ∧ diskC.own w1.heap.size w2.heap.size (w2.alloc (.cells #[.slice pa d.1.length pc, .slice qa d.2.length qc] 25)).drew [.slice pa d.1.length pc, .slice qa d.2.length qc] d) :=
    Lib.hid ⟨(hD2.ext (Ext.alloc _ _)).ext (Ext.drew _), ((HB1.out.chg hC2).ext (Ext.alloc _ _)).ext (Ext.drew _), ((hB1.chg hC2 (by omega)).pAlloc _).pDrew, ((Chg.ext HX1.out hC2 (by omega)).trans (Ext.alloc _ _)).trans (Ext.drew _), (O2.pAlloc _).pDrew⟩
  have lb := hB1.lt
  have hBx : Bx (w2.alloc (.cells #[.slice pa d.1.length pc, .slice qa d.2.length qc] 25)) w2.heap.size [.slice pa d.1.length pc, .slice qa d.2.length qc] := Bx.new _ _ _ _ rfl
  have c0 := hBx.cell 0 _ rfl; have c1 := hBx.cell 1 _ rfl
  clear hC2 O2 hD2 hB1 HX1 HD1 HB1 hBx
  go_wp2
  refine wp_region_T (S := fun ω => ω.cell? ⟨w2.heap.size, 0, none⟩ = some (.slice pa d.1.length pc) ∧ ω.cell? ⟨w2.heap.size, 1, none⟩ = some (.slice qa d.2.length qc)) 4 (by kernel_rfl) ?_ (fun hHeld => ?_) (by decide)
  · (try dsimp only); exact ⟨c0, c1⟩
  refine wpT_take (i := 0) (v := ?_) rfl (by kernel_rfl) (by decide) (by kernel_rfl) (by kernel_rfl) (by kernel_rfl) (fun _ _ _ h => h) (Or.inl ⟨by rfl, ?_⟩) (by assumption) ?_
  rotate_left
  · intro w9 hSw; (try dsimp only at hSw); go_simp; (first | done | with_reducible rfl)
  (try simp only [List.getElem_toArray, List.getElem_cons_succ, List.getElem_cons_zero, Act.put, List.setIfInBounds_toArray, List.set_cons_zero, List.set_cons_succ])
  refine wpT_take (i := 1) (v := ?_) rfl (by kernel_rfl) (by decide) (by kernel_rfl) (by kernel_rfl) (by kernel_rfl) (fun _ _ _ h => h) (Or.inl ⟨by rfl, ?_⟩) (by assumption) ?_
  rotate_left
  · intro w9 hSw; (try dsimp only at hSw); go_simp; (first | done | with_reducible rfl)
  (try simp only [List.getElem_toArray, List.getElem_cons_succ, List.getElem_cons_zero, Act.put, List.setIfInBounds_toArray, List.set_cons_zero, List.set_cons_succ])
  refine wpT_step (i := 2) (by kernel_rfl) (by decide) rfl (fun K hK => ?_)
  go_simp
  refine (l3DrawFates_c cb n cap a _ HH.out.1 HH.out.2.1).mono ?_
  rintro e w3 ⟨fv, row, rfl, hrl, O3, hD, hC⟩
  obtain ⟨fa, fc, rfl, -, -, -⟩ := row_open O3.view
  have z3 := hC.size
  (try simp at z3)
  have HB3 := Lib.hid (HH.out.2.2.1.chg hC (by omega))
  have HX3 := Lib.hid (Chg.ext HH.out.2.2.2.1 hC (by omega))
  have HO3 := Lib.hid (HH.out.2.2.2.2.chg hC (by omega))
  have HR3 := Lib.hid O3
  clear O3
  (try go_wp2_with fail)
  refine hK.out _ _ ?_ (fun hHeld2 => ?_)
  · (try dsimp only); (obtain ⟨s0, s1⟩ := hHeld; exact ⟨cell_chg s0 hC (by omega), cell_chg s1 hC (by omega)⟩)
  clear hK K hHeld
  rename _ => hHeld
  (try simp only [List.getElem_toArray, List.getElem_cons_succ, List.getElem_cons_zero, Act.put, List.setIfInBounds_toArray, List.set_cons_zero, List.set_cons_succ])
  refine wpT_step (i := 3) (by kernel_rfl) (by decide) rfl (fun K hK => ?_)
  clear hC hD c0 c1
  have r0 := HB3.out.cell 0 _ rfl; have r1 := HB3.out.cell 1 _ rfl; have rf := HB3.out.fr; have rl := HB3.out.lt
  go_simp
  refine hK.out _ _ ?_ (fun hHeld2 => ?_)
  · (try dsimp only); (obtain ⟨s0, s1⟩ := hHeld; have hCg : Chg w.heap.size (w.heap.size + 1) w3 _ := (Chg.setCell w3 ⟨w.heap.size, 0, none⟩ (.slice pa d.1.length pc) (Nat.le_refl _) (Nat.lt_succ_self _)).trans (Chg.setCell _ ⟨w.heap.size, 1, none⟩ (.slice qa d.2.length qc) (Nat.le_refl _) (Nat.lt_succ_self _)); exact ⟨cell_chg s0 hCg (by omega), cell_chg s1 hCg (by omega)⟩)
  clear hK K hHeld
  rename _ => hHeld
  (try simp only [List.getElem_toArray, List.getElem_cons_succ, List.getElem_cons_zero, Act.put, List.setIfInBounds_toArray, List.set_cons_zero, List.set_cons_succ])
  refine wpT_last (by kernel_rfl) (by kernel_rfl) rfl (fun K hK => ?_)
  clear hHeld r0 r1 rf rl
  go_simp
  refine hK.out _ _ ?_
  clear hK K
  have hS : Chg w.heap.size (w.heap.size + 1) w3 ((w3.setCell ⟨w.heap.size, 0, none⟩ (.slice pa d.1.length pc)).setCell ⟨w.heap.size, 1, none⟩ (.slice qa d.2.length qc)) := (Chg.setCell w3 ⟨w.heap.size, 0, none⟩ (.slice pa d.1.length pc) (Nat.le_refl _) (Nat.lt_succ_self _)).trans (Chg.setCell _ ⟨w.heap.size, 1, none⟩ (.slice qa d.2.length qc) (Nat.le_refl _) (Nat.lt_succ_self _))
  have HS := Lib.hid hS
  have HB4 := Lib.hid (Bx.set21 (Bx.set20 HB3.out (.slice pa d.1.length pc)) (.slice qa d.2.length qc))
  have k0 := HB4.out.cell 0 _ rfl; have k1 := HB4.out.cell 1 _ rfl
  clear hS
  go_wp2
  refine bodyPost_ret (v := .tuple #[.agg #[.slice pa d.1.length pc, .slice qa d.2.length qc], .slice fa row.length fc]) (by simp [results, Try.results43, go_sem, k0, k1]) rfl ⟨_, _, d, _, row, rfl, hrl, (HO3.out.chg HS.out (by omega)).view, (HR3.out.chg HS.out (by simp; omega)).view, Chg.ext HX3.out HS.out (Nat.le_refl _)⟩

end Go.Proofs.Ytfakjcckgcgalaa
