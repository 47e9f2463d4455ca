/- The draws of two disks. -/
import Derived.Test.YtbapomhoipdanaaDsk2
import Derived.Test.YtbapomhoipdanaaDsk3
import Derived.Test.YtbapomhoipdanaaMfp
import Derived.Test.YtbapomhoipdanaaTw2b
import Derived.Test.YtbapomhoipdanaaTw2d
import Derived.Test.YtbapomhoipdanaaBf
set_option linter.unusedVariables false
set_option linter.unusedSimpArgs false
namespace Go.Proofs.Ytbapomhoipdanaa
open Go.RowKit Go.Sl

theorem put4s (w : World) (b : Nat) (p q r s : Value) : Chg b (b + 1) w ((((w.setCell ⟨b, 0, none⟩ p).setCell ⟨b, 1, none⟩ q).setCell ⟨b, 2, none⟩ r).setCell ⟨b, 3, none⟩ s) :=
  (((Chg.setCell w ⟨b, 0, none⟩ p (Nat.le_refl _) (Nat.lt_succ_self _)).trans (Chg.setCell _ ⟨b, 1, none⟩ q (Nat.le_refl _) (Nat.lt_succ_self _))).trans (Chg.setCell _ ⟨b, 2, none⟩ r (Nat.le_refl _) (Nat.lt_succ_self _))).trans (Chg.setCell _ ⟨b, 3, none⟩ s (Nat.le_refl _) (Nat.lt_succ_self _))
theorem put2s (w : World) (b i j : Nat) (p q : Value) : Chg b (b + 1) w ((w.setCell ⟨b, i, none⟩ p).setCell ⟨b, j, none⟩ q) :=
  (Chg.setCell w ⟨b, i, none⟩ p (Nat.le_refl _) (Nat.lt_succ_self _)).trans (Chg.setCell _ ⟨b, j, none⟩ q (Nat.le_refl _) (Nat.lt_succ_self _))
theorem two_formV {w : World} {u v u' v' : Value} {t : TwoD} (h : twoC.V w [u, v, u', v'] t) :
    (∃ a c, u = .slice a t.1.1.length c) ∧ (∃ a c, v = .slice a t.1.2.length c) ∧ (∃ a c, u' = .slice a t.2.1.length c) ∧ ∃ a c, v' = .slice a t.2.2.length c := by
  obtain ⟨a, b, c, d, e, h1, h2⟩ := two_V.1 h
  cases e
  obtain ⟨_, _, e1, h3, h4⟩ := disk_V.1 h1
  cases e1
  obtain ⟨_, _, e1, h5, h6⟩ := disk_V.1 h2
  cases e1
  exact ⟨sl_form h3, sl_form h4, sl_form h5, sl_form h6⟩
theorem two_A {w : World} {u v u' v' : Value} {t : TwoD} (h : twoC.V w [u, v, u', v'] t) : diskC.V w [u, v] t.1 := by
  obtain ⟨_, _, _, _, e, h1, h2⟩ := two_V.1 h
  cases e; exact h1
theorem two_B {w : World} {u v u' v' : Value} {t : TwoD} (h : twoC.V w [u, v, u', v'] t) : diskC.V w [u', v'] t.2 := by
  obtain ⟨_, _, _, _, e, h1, h2⟩ := two_V.1 h
  cases e; exact h2
/-- The memory of a draw of two disks: the cursor, the result's box, the disks' box. -/
structure TS (a : Option Addr) (n cap cb b2 b3 : Nat) (w0 w : World) (u v u' v' : Value) (t : TwoD) : Prop where
  dc : DC w cb a n cap
  chg : Chg cb (cb + 1) w0 w
  res : Bx w b2 [.slice none 0 0, .slice none 0 0, .slice none 0 0, .slice none 0 0]
  box : Bx w b3 [u, v, u', v']
  no : ∃ fp, twoC.O w [u, v, u', v'] t fp ∧ fp.Nodup ∧ ∀ b ∈ fp, b2 < b ∧ b ≠ b3
  lt : cb < b2 ∧ b2 < b3 ∧ w0.heap.size ≤ b2
section
variable {w0 w w' : World} {a : Option Addr} {n cap cb b2 b3 lo hi : Nat} {u v u' v' x y x' y' : Value} {t t' : TwoD} {d : DiskD}
theorem TS.view (h : TS a n cap cb b2 b3 w0 w u v u' v' t) : twoC.V w [u, v, u', v'] t := let ⟨_, hO, _⟩ := h.no; twoC.view hO
theorem TS.grow (h : TS a n cap cb b2 b3 w0 w u v u' v' t) (he : Ext w w') : TS a n cap cb b2 b3 w0 w' u v u' v' t := by
  obtain ⟨fp, h1, h2, h3⟩ := h.no
  exact ⟨h.dc.ext he, h.chg.trans (he.chg _ _), h.res.ext he, h.box.ext he, ⟨fp, twoC.frame h1 (fun b hb => he.block b (twoC.lt h1 b hb)), h2, h3⟩, h.lt⟩
theorem TS.dice (h : TS a n cap cb b2 b3 w0 w u v u' v' t) (hC : Chg cb (cb + 1) w w') (hD : DC w' cb a n cap) : TS a n cap cb b2 b3 w0 w' u v u' v' t := by
  obtain ⟨fp, h1, h2, h3⟩ := h.no
  have := h.lt
  exact ⟨hD, h.chg.trans hC, h.res.chg hC (by omega), h.box.chg hC (by omega), ⟨fp, twoC.frame h1 (fun b hb => hC.block b (twoC.lt h1 b hb) (by have := h3 b hb; omega)), h2, h3⟩, h.lt⟩
theorem TS.put (h : TS a n cap cb b2 b3 w0 w u v u' v' t) (hO : twoC.own lo hi w [x, y, x', y'] t') (hlo : b3 < lo) :
    TS a n cap cb b2 b3 w0 ((((w.setCell ⟨b3, 0, none⟩ x).setCell ⟨b3, 1, none⟩ y).setCell ⟨b3, 2, none⟩ x').setCell ⟨b3, 3, none⟩ y') x y x' y' t' := by
  have hC := put4s w b3 x y x' y'
  have := h.lt
  obtain ⟨fp, h1, h2, h3⟩ := Cd.own.chg hO hC (by omega)
  exact ⟨h.dc.far hC (by omega), Chg.new h.chg hC (by omega), h.res.chg hC (by omega), Bx.set43 (Bx.set42 (Bx.set41 (Bx.set40 h.box x) y) x') y', ⟨fp, h1, h2, fun b hb => by have := h3 b hb; omega⟩, h.lt⟩
/-- The second disk anew, made behind the others. -/
theorem TS.putB' {w1 : World} (h : TS a n cap cb b2 b3 w0 w1 u v u' v' t) (hw : TS a n cap cb b2 b3 w0 w u v u' v' t) (hC9 : Chg cb (cb + 1) w1 w) (hO : diskC.own lo hi w [x', y'] d) (hlo : w1.heap.size ≤ lo) :
    TS a n cap cb b2 b3 w0 ((w.setCell ⟨b3, 2, none⟩ x').setCell ⟨b3, 3, none⟩ y') u v x' y' (t.1, d) := by
  have hC := put2s w b3 2 3 x' y'
  have := h.lt
  have hs := h.box.lt
  obtain ⟨g, h1, h2, h5⟩ := Cd.own.chg hO hC (by omega)
  obtain ⟨fp, h3, h6, h4⟩ := h.no
  have h7 := twoC.lt h3
  obtain ⟨_, _, _, _, f1, f2, e, rfl, h8, h9⟩ := two_O.1 h3
  cases e
  have h8' := diskC.frame (w' := w) h8 (fun b hb => hC9.block b (diskC.lt h8 b hb) (by have := (h4 b (List.mem_append_left _ hb)).1; omega))
  refine ⟨hw.dc.far hC (by omega), Chg.new hw.chg hC (by omega), hw.res.chg hC (by omega), Bx.set43 (Bx.set42 hw.box x') y', ⟨f1 ++ g, two_O.2 ⟨_, _, _, _, f1, g, rfl, rfl, diskC.frame h8' (fun b hb => hC.block b (diskC.lt h8' b hb) (by have := (h4 b (List.mem_append_left _ hb)).2; omega)), h1⟩, ?_, fun b hb => ?_⟩, hw.lt⟩
  · rw [List.nodup_append] at h6 ⊢
    refine ⟨h6.1, h2, fun b hb c hc e => ?_⟩
    subst e
    have := h7 b (List.mem_append_left _ hb); have := h5 b hc; omega
  · rcases List.mem_append.1 hb with hb | hb
    · exact h4 b (List.mem_append_left _ hb)
    · have := h5 b hb; omega
theorem TS.size (h : TS a n cap cb b2 b3 w0 w u v u' v' t) : b3 < w.heap.size := h.box.lt
/-- The result's box takes the disks. -/
theorem TS.ret (h : TS a n cap cb b2 b3 w0 w u v u' v' t) : twoC.own w0.heap.size ((((w.setCell ⟨b2, 0, none⟩ u).setCell ⟨b2, 1, none⟩ v).setCell ⟨b2, 2, none⟩ u').setCell ⟨b2, 3, none⟩ v').heap.size ((((w.setCell ⟨b2, 0, none⟩ u).setCell ⟨b2, 1, none⟩ v).setCell ⟨b2, 2, none⟩ u').setCell ⟨b2, 3, none⟩ v') [u, v, u', v'] t ∧ DC ((((w.setCell ⟨b2, 0, none⟩ u).setCell ⟨b2, 1, none⟩ v).setCell ⟨b2, 2, none⟩ u').setCell ⟨b2, 3, none⟩ v') cb a n cap ∧ Chg cb (cb + 1) w0 ((((w.setCell ⟨b2, 0, none⟩ u).setCell ⟨b2, 1, none⟩ v).setCell ⟨b2, 2, none⟩ u').setCell ⟨b2, 3, none⟩ v') ∧ Bx ((((w.setCell ⟨b2, 0, none⟩ u).setCell ⟨b2, 1, none⟩ v).setCell ⟨b2, 2, none⟩ u').setCell ⟨b2, 3, none⟩ v') b2 [u, v, u', v'] := by
  have hC := put4s w b2 u v u' v'
  obtain ⟨fp, h1, h2, h3⟩ := h.no
  have := h.lt
  have h4 := twoC.frame h1 (fun b hb => hC.block b (twoC.lt h1 b hb) (by have := h3 b hb; omega))
  exact ⟨⟨fp, h4, h2, fun b hb => by have := h3 b hb; have := twoC.lt h4 b hb; omega⟩, h.dc.far hC (by omega), Chg.new h.chg hC (by omega), Bx.set43 (Bx.set42 (Bx.set41 (Bx.set40 h.res u) v) u') v'⟩
end

set_option maxHeartbeats 8000000 in
set_option maxRecDepth 20000 in
theorem l4Draw_c (cb n cap : Nat) (a : Option Addr) (w : World) (hD : DC w cb a n cap) (hb : CodeAt w cb a n) :
    Calls Try.prog 99 #[.pointer (some ⟨cb, 0, none⟩)] w fun e w' => ∃ (u v u' v' : Value) (t : TwoD), e = .returned (.agg #[u, v, u', v']) ∧ twoOk t = true ∧ twoC.own w.heap.size w'.heap.size w' [u, v, u', v'] t ∧ DC w' cb a n cap ∧ Chg cb (cb + 1) w w' := by
  have hlt := hD.lt
  have HD := Lib.hid hD; have HB := Lib.hid hb
  clear hD hb
  go_enter Try.func99, Try.ntmps99
  go_wp2_with fail
  refine (l1Below_c cb n cap a 4 _ (by omega) (HD.out.ext (Ext.alloc _ _)) (HB.out.ext (Ext.alloc _ _))).mono ?_
  rintro e w1 ⟨x, hx0, hx1, rfl, hD1, hC1⟩
  have z1 : w.heap.size + 1 ≤ w1.heap.size := by have := hC1.size; (try simp at this); omega
  have B2 : Bx w1 w.heap.size [.slice none 0 0, .slice none 0 0, .slice none 0 0, .slice none 0 0] := Bx.chg (Bx.new _ _ _ _ rfl) hC1 (by omega)
  have hw1 : IntKind.i64.wrap (1 + x) = 1 + x := IntWalk.i64_in _ (by omega)
  have H1 : Hid (DC w1 cb a n cap ∧ Chg cb (cb + 1) w w1 ∧ Bx w1 w.heap.size [.slice none 0 0, .slice none 0 0, .slice none 0 0, .slice none 0 0]) := Lib.hid ⟨hD1, ((Ext.alloc _ _).chg _ _).trans hC1, B2⟩
  clear hD1 hC1 B2
  go_wp2_with fail
  refine (specNewTwo_c (1 + x) _).mono ?_
  rintro e w2 ⟨u0, v0, u1, v1, rfl, X2, O2⟩
  have hok := Lib.hid (twoOk_new (n := 1 + x) (by omega) (by omega))
  have z2 := X2.size
  obtain ⟨⟨pa, pc, rfl⟩, ⟨qa, qc, rfl⟩, ⟨ra, rc, rfl⟩, sa, sc, rfl⟩ := two_formV O2.view
  generalize newTwo (1 + x) = t0 at *
  have HS : Hid (TS a n cap cb w.heap.size w2.heap.size w (w2.alloc (.cells #[.slice pa t0.1.1.length pc, .slice qa t0.1.2.length qc, .slice ra t0.2.1.length rc, .slice sa t0.2.2.length sc] 34)) (.slice pa t0.1.1.length pc) (.slice qa t0.1.2.length qc) (.slice ra t0.2.1.length rc) (.slice sa t0.2.2.length sc) t0) := by
    refine Lib.hid ⟨(H1.out.1.ext X2).ext (Ext.alloc _ _), H1.out.2.1.trans ((X2.trans (Ext.alloc _ _)).chg _ _), (H1.out.2.2.ext X2).ext (Ext.alloc _ _), Bx.new _ _ _ _ rfl, (by obtain ⟨fp, h1, h2, h3⟩ := O2.pAlloc (.cells #[.slice pa t0.1.1.length pc, .slice qa t0.1.2.length qc, .slice ra t0.2.1.length rc, .slice sa t0.2.2.length sc] 34); exact ⟨fp, h1, h2, fun b hb => by have := h3 b hb; omega⟩), by omega⟩
  clear X2 O2 H1 hw1
  go_wp2_with fail
  refine (l1Below_c cb n cap a 8 _ (by omega) HS.out.dc (HB.out.chg HS.out.chg)).mono ?_
  rintro e w3 ⟨y, hy0, hy1, rfl, hD, hC⟩
  obtain ⟨m, rfl⟩ : ∃ m : Nat, y = m := ⟨y.toNat, by omega⟩
  replace HS := Lib.hid (HS.out.dice hC hD)
  clear hD hC
  go_wp2
  go_loopw [4] (fun v4 wr => ∃ (k : Nat) (pa : Option Addr) (pc : Nat) (qa : Option Addr) (qc : Nat) (ra : Option Addr) (rc : Nat) (sa : Option Addr) (sc : Nat) (t : TwoD), k ≤ 7 ∧ v4 = .int .i64 k ∧ Hid (TS a n cap cb w.heap.size w2.heap.size w wr (.slice pa t.1.1.length pc) (.slice qa t.1.2.length qc) (.slice ra t.2.1.length rc) (.slice sa t.2.2.length sc) t ∧ twoOk t = true)) (fun v4 _ => (intOf v4).toNat)
  case atStart => exact ⟨m, _, _, _, _, _, _, _, _, t0, by omega, rfl, Lib.hid ⟨HS.out, hok.out⟩⟩
  case round =>
    clear HS hok
    obtain ⟨k, pa, pc, qa, qc, ra, rc, sa, sc, t, hk, rfl, HI⟩ := hrel
    obtain ⟨wq, hwq⟩ : ∃ w, w = wr := ⟨_, rfl⟩
    subst hwq
    have c0 := HI.out.1.box.cell 0 _ rfl; have c1 := HI.out.1.box.cell 1 _ rfl; have c2 := HI.out.1.box.cell 2 _ rfl; have c3 := HI.out.1.box.cell 3 _ rfl; have zb := HI.out.1.lt; have lb := HI.out.1.size
    by_cases hk0 : 0 < k
    · have hd : decide ((0 : Int) < k) = true := by rw [decide_eq_true_iff]; omega
      have hlen := Lib.hid (twoOk_len HI.out.2)
      have hDr : TS a n cap cb w.heap.size w2.heap.size w wq.drew (.slice pa t.1.1.length pc) (.slice qa t.1.2.length qc) (.slice ra t.2.1.length rc) (.slice sa t.2.2.length sc) t := HI.out.1.grow (Ext.drew _)
      have HDr := Lib.hid hDr
      clear hDr
      go_wp2
      refine wp_region_U (S := fun ω => ω.cell? ⟨w2.heap.size, 0, none⟩ = some (.slice pa t.1.1.length pc) ∧ ω.cell? ⟨w2.heap.size, 1, none⟩ = some (.slice qa t.1.2.length qc) ∧ ω.cell? ⟨w2.heap.size, 2, none⟩ = some (.slice ra t.2.1.length rc) ∧ ω.cell? ⟨w2.heap.size, 3, none⟩ = some (.slice sa t.2.2.length sc)) 13 (by kernel_rfl) ?_ (fun hHeld => ?_)
      · (try dsimp only); exact ⟨c0, c1, c2, c3⟩
      refine wpU_take (i := 0) (v := ?_) rfl (by decide) (by kernel_rfl) (by kernel_rfl) (by kernel_rfl) (by kernel_rfl) (fun _ _ _ h => h) (Or.inl ⟨by rfl, ?_⟩) (by assumption) ?_
      rotate_left
      · intro w9 hSw; (try dsimp only at hSw); go_simp; (first | done | with_reducible rfl)
      (try simp only [List.getElem_toArray, List.getElem_cons_succ, List.getElem_cons_zero, Act.put, List.setIfInBounds_toArray, List.set_cons_zero, List.set_cons_succ])
      refine wpU_take (i := 1) (v := ?_) rfl (by decide) (by kernel_rfl) (by kernel_rfl) (by kernel_rfl) (by kernel_rfl) (fun _ _ _ h => h) (Or.inl ⟨by rfl, ?_⟩) (by assumption) ?_
      rotate_left
      · intro w9 hSw; (try dsimp only at hSw); go_simp; (first | done | with_reducible rfl)
      (try simp only [List.getElem_toArray, List.getElem_cons_succ, List.getElem_cons_zero, Act.put, List.setIfInBounds_toArray, List.set_cons_zero, List.set_cons_succ])
      refine wpU_take (i := 2) (v := ?_) rfl (by decide) (by kernel_rfl) (by kernel_rfl) (by kernel_rfl) (by kernel_rfl) (fun _ _ _ h => h) (Or.inl ⟨by rfl, ?_⟩) (by assumption) ?_
      rotate_left
      · intro w9 hSw; (try dsimp only at hSw); go_simp; (first | done | with_reducible rfl)
      (try simp only [List.getElem_toArray, List.getElem_cons_succ, List.getElem_cons_zero, Act.put, List.setIfInBounds_toArray, List.set_cons_zero, List.set_cons_succ])
      refine wpU_take (i := 3) (v := ?_) rfl (by decide) (by kernel_rfl) (by kernel_rfl) (by kernel_rfl) (by kernel_rfl) (fun _ _ _ h => h) (Or.inl ⟨by rfl, ?_⟩) (by assumption) ?_
      rotate_left
      · intro w9 hSw; (try dsimp only at hSw); go_simp; (first | done | with_reducible rfl)
      (try simp only [List.getElem_toArray, List.getElem_cons_succ, List.getElem_cons_zero, Act.put, List.setIfInBounds_toArray, List.set_cons_zero, List.set_cons_succ])
      refine wpU_take (i := 4) (v := ?_) rfl (by decide) (by kernel_rfl) (by kernel_rfl) (by kernel_rfl) (by kernel_rfl) (fun _ _ _ h => h) (Or.inl ⟨by rfl, ?_⟩) (by assumption) ?_
      rotate_left
      · intro w9 hSw; (try dsimp only at hSw); go_simp; (first | done | with_reducible rfl)
      (try simp only [List.getElem_toArray, List.getElem_cons_succ, List.getElem_cons_zero, Act.put, List.setIfInBounds_toArray, List.set_cons_zero, List.set_cons_succ])
      refine wpU_take (i := 5) (v := ?_) rfl (by decide) (by kernel_rfl) (by kernel_rfl) (by kernel_rfl) (by kernel_rfl) (fun _ _ _ h => h) (Or.inl ⟨by rfl, ?_⟩) (by assumption) ?_
      rotate_left
      · intro w9 hSw; (try dsimp only at hSw); go_simp; (first | done | with_reducible rfl)
      (try simp only [List.getElem_toArray, List.getElem_cons_succ, List.getElem_cons_zero, Act.put, List.setIfInBounds_toArray, List.set_cons_zero, List.set_cons_succ])
      refine wpU_take (i := 7) (v := ?_) rfl (by decide) (by kernel_rfl) (by kernel_rfl) (by kernel_rfl) (by kernel_rfl) (fun _ _ _ h => h) (Or.inl ⟨by rfl, ?_⟩) (by assumption) ?_
      rotate_left
      · intro w9 hSw; (try dsimp only at hSw); go_simp; (first | done | with_reducible rfl)
      (try simp only [List.getElem_toArray, List.getElem_cons_succ, List.getElem_cons_zero, Act.put, List.setIfInBounds_toArray, List.set_cons_zero, List.set_cons_succ])
      refine wpU_step (i := 6) (by kernel_rfl) (by decide) rfl (fun K hK => ?_)
      go_simp
      refine (l1Below_c cb n cap a t.1.1.length _ (by have := hlen.out; omega) HDr.out.dc (HB.out.chg HDr.out.chg)).mono ?_
      rintro e w5 ⟨x5, hx50, hx51, rfl, hD, hC⟩
      have HS5 := Lib.hid (HDr.out.dice hC hD)
      (try go_wp2_with fail)
      refine hK.out _ _ ?_ (fun hHeld2 => ?_)
      · (try dsimp only); (obtain ⟨s0, s1, s2, s3⟩ := hHeld; exact ⟨cell_chg s0 hC (by omega), cell_chg s1 hC (by omega), cell_chg s2 hC (by omega), cell_chg s3 hC (by omega)⟩)
      clear hK K hHeld
      rename _ => hHeld
      (try simp only [List.getElem_toArray, List.getElem_cons_succ, List.getElem_cons_zero, Act.put, List.setIfInBounds_toArray, List.set_cons_zero, List.set_cons_succ])
      refine wpU_step (i := 8) (by kernel_rfl) (by decide) rfl (fun K hK => ?_)
      clear hC hD
      go_simp
      refine (l1DrawRow_c cb n cap a _ HS5.out.dc (HB.out.chg HS5.out.chg)).mono ?_
      rintro e w6 ⟨rv, row, rfl, hrl, HRW, O6, hD, hC⟩
      obtain ⟨xa, xc, rfl, -, -, -⟩ := row_open O6.view
      have HS6 := Lib.hid (HS5.out.dice hC hD)
      have HO6 := Lib.hid O6
      have l5 := HS5.out.size
      have z6 := hC.size
      clear O6
      (try go_wp2_with fail)
      refine hK.out _ _ ?_ (fun hHeld2 => ?_)
      · (try dsimp only); (obtain ⟨s0, s1, s2, s3⟩ := hHeld; exact ⟨cell_chg s0 hC (by omega), cell_chg s1 hC (by omega), cell_chg s2 hC (by omega), cell_chg s3 hC (by omega)⟩)
      clear hK K hHeld
      rename _ => hHeld
      (try simp only [List.getElem_toArray, List.getElem_cons_succ, List.getElem_cons_zero, Act.put, List.setIfInBounds_toArray, List.set_cons_zero, List.set_cons_succ])
      refine wpU_step (i := 9) (by kernel_rfl) (by decide) rfl (fun K hK => ?_)
      clear hC hD
      go_simp
      refine (specBothWrote_c _ t x5 _ row _ HS6.out.view HO6.out.view).mono ?_
      rintro e w7 ⟨u7, v7, u8, v8, rfl, X7, O7⟩
      have hok7 := Lib.hid (twoOk_wrote HI.out.2 x5 row)
      obtain ⟨⟨pa7, pc7, rfl⟩, ⟨qa7, qc7, rfl⟩, ⟨ra7, rc7, rfl⟩, sa7, sc7, rfl⟩ := two_formV O7.view
      generalize (bothWrote t x5 row).1 = t7 at *
      generalize (bothWrote t x5 row).2 = o7 at *
      have HS7 := Lib.hid (HS6.out.grow X7)
      have HO7 := Lib.hid O7
      have z7 := X7.size
      clear O7
      (try go_wp2_with fail)
      refine hK.out _ _ ?_ (fun hHeld2 => ?_)
      · (try dsimp only); (obtain ⟨s0, s1, s2, s3⟩ := hHeld; exact ⟨cell_ext s0 X7, cell_ext s1 X7, cell_ext s2 X7, cell_ext s3 X7⟩)
      clear hK K hHeld
      rename _ => hHeld
      (try simp only [List.getElem_toArray, List.getElem_cons_succ, List.getElem_cons_zero, Act.put, List.setIfInBounds_toArray, List.set_cons_zero, List.set_cons_succ])
      refine wpU_take (i := 10) (v := ?_) rfl (by decide) (by kernel_rfl) (by kernel_rfl) (by kernel_rfl) (by kernel_rfl) (fun _ _ _ h => h) (Or.inl ⟨by rfl, ?_⟩) (by assumption) ?_
      rotate_left
      · intro w9 hSw; (try dsimp only at hSw); go_simp; (first | done | with_reducible rfl)
      (try simp only [List.getElem_toArray, List.getElem_cons_succ, List.getElem_cons_zero, Act.put, List.setIfInBounds_toArray, List.set_cons_zero, List.set_cons_succ])
      refine wpU_take (i := 11) (v := ?_) rfl (by decide) (by kernel_rfl) (by kernel_rfl) (by kernel_rfl) (by kernel_rfl) (fun _ _ _ h => h) (Or.inl ⟨by rfl, ?_⟩) (by assumption) ?_
      rotate_left
      · intro w9 hSw; (try dsimp only at hSw); go_simp; (first | done | with_reducible rfl)
      (try simp only [List.getElem_toArray, List.getElem_cons_succ, List.getElem_cons_zero, Act.put, List.setIfInBounds_toArray, List.set_cons_zero, List.set_cons_succ])
      refine wpU_pure (i := 12) (v := ?_) rfl (by decide) (by kernel_rfl) (by kernel_rfl) (by kernel_rfl) (fun _ _ _ h => h) (Or.inl ⟨by rfl, ?_⟩) (by assumption) ?_
      rotate_left
      · intro w9; go_simp; (first | done | with_reducible rfl)
      (try simp only [List.getElem_toArray, List.getElem_cons_succ, List.getElem_cons_zero, Act.put, List.setIfInBounds_toArray, List.set_cons_zero, List.set_cons_succ])
      refine wpU_store (by kernel_rfl) rfl (fun K hK => ?_)
      clear X7 hHeld
      have b0 := HS7.out.box.cell 0 _ rfl; have b1 := HS7.out.box.cell 1 _ rfl; have b2 := HS7.out.box.cell 2 _ rfl; have b3 := HS7.out.box.cell 3 _ rfl; have bf := HS7.out.box.fr; have bl := HS7.out.box.lt
      clear c0 c1 c2 c3
      go_simp
      refine hK.out _ _ ?_
      clear hK K
      (try simp only [List.getElem_toArray, List.getElem_cons_succ, List.getElem_cons_zero, Act.put, List.setIfInBounds_toArray, List.set_cons_zero, List.set_cons_succ])
      refine wpAny_done (by kernel_rfl) ?_ _
      have HS8 := Lib.hid (HS7.out.put HO7.out (by omega))
      clear b0 b1 b2 b3 bf bl HS7 HO7 HS6 HO6 HS5 HDr HI HRW
      generalize ((((w7.setCell ⟨w2.heap.size, 0, none⟩ (.slice pa7 t7.1.1.length pc7)).setCell ⟨w2.heap.size, 1, none⟩ (.slice qa7 t7.1.2.length qc7)).setCell ⟨w2.heap.size, 2, none⟩ (.slice ra7 t7.2.1.length rc7)).setCell ⟨w2.heap.size, 3, none⟩ (.slice sa7 t7.2.2.length sc7)) = wa at *
      have hw : IntKind.i64.wrap ((k : Int) - 1) = ((k - 1 : Nat) : Int) := by rw [show (k : Int) - 1 = ((k - 1 : Nat) : Int) by omega]; exact IntWalk.i64_in _ (by omega)
      go_wp2_with fail
      refine (l1Below_c cb n cap a 6 _ (by omega) HS8.out.dc (HB.out.chg HS8.out.chg)).mono ?_
      rintro e w8 ⟨q, hq0, hq1, rfl, hD, hC⟩
      replace HS8 := Lib.hid (HS8.out.dice hC hD)
      clear hD hC
      have hq : q = 0 ∨ q = 1 ∨ q = 2 ∨ (q ≠ 0 ∧ q ≠ 1 ∧ q ≠ 2) := by omega
      rcases hq with rfl | rfl | rfl | ⟨q0, q1, q2⟩
      · have c0 := HS8.out.box.cell 0 _ rfl; have c1 := HS8.out.box.cell 1 _ rfl; have c2 := HS8.out.box.cell 2 _ rfl; have c3 := HS8.out.box.cell 3 _ rfl
        go_wp2_with fail
        refine (specBothSynced_c _ t7 _ HS8.out.view).mono ?_
        rintro e w9 ⟨u9, v9, u8, v8, rfl, X9, O9⟩
        have hok9 := Lib.hid (twoOk_synced hok7.out)
        obtain ⟨⟨pa9, pc9, rfl⟩, ⟨qa9, qc9, rfl⟩, ⟨ra9, rc9, rfl⟩, sa9, sc9, rfl⟩ := two_formV O9.view
        generalize bothSynced t7 = t9 at *
        have HO9 := Lib.hid O9
        have l8 := HS8.out.size
        replace HS8 := Lib.hid (HS8.out.grow X9)
        clear X9 O9 c0 c1 c2 c3
        have c0 := HS8.out.box.cell 0 _ rfl; have c1 := HS8.out.box.cell 1 _ rfl; have c2 := HS8.out.box.cell 2 _ rfl; have c3 := HS8.out.box.cell 3 _ rfl; have bf := HS8.out.box.fr; have bl := HS8.out.box.lt
        go_wp2
        go_roundw
        case rel => exact ⟨k - 1, _, _, _, _, _, _, _, _, t9, by omega, by first | rfl | go_num, Lib.hid ⟨HS8.out.put HO9.out (by omega), hok9.out⟩⟩
        case measure => simp [intOf]; omega
      · have c0 := HS8.out.box.cell 0 _ rfl; have c1 := HS8.out.box.cell 1 _ rfl; have c2 := HS8.out.box.cell 2 _ rfl; have c3 := HS8.out.box.cell 3 _ rfl; have zb8 := HS8.out.lt; have lb8 := HS8.out.size
        have HDr : Hid (TS a n cap cb w.heap.size w2.heap.size w w8.drew (.slice pa7 t7.1.1.length pc7) (.slice qa7 t7.1.2.length qc7) (.slice ra7 t7.2.1.length rc7) (.slice sa7 t7.2.2.length sc7) t7) := Lib.hid (HS8.out.grow (Ext.drew _))
        go_wp2
        refine wp_region_U (S := fun ω => ω.cell? ⟨w2.heap.size, 0, none⟩ = some (.slice pa7 t7.1.1.length pc7) ∧ ω.cell? ⟨w2.heap.size, 1, none⟩ = some (.slice qa7 t7.1.2.length qc7) ∧ ω.cell? ⟨w2.heap.size, 2, none⟩ = some (.slice ra7 t7.2.1.length rc7) ∧ ω.cell? ⟨w2.heap.size, 3, none⟩ = some (.slice sa7 t7.2.2.length sc7)) 4 (by kernel_rfl) ?_ (fun hHeld => ?_)
        · (try dsimp only); exact ⟨c0, c1, c2, c3⟩
        refine wpU_take (i := 0) (v := ?_) rfl (by decide) (by kernel_rfl) (by kernel_rfl) (by kernel_rfl) (by kernel_rfl) (fun _ _ _ h => h) (Or.inl ⟨by rfl, ?_⟩) (by assumption) ?_
        rotate_left
        · intro w9 hSw; (try dsimp only at hSw); go_simp; (first | done | with_reducible rfl)
        (try simp only [List.getElem_toArray, List.getElem_cons_succ, List.getElem_cons_zero, Act.put, List.setIfInBounds_toArray, List.set_cons_zero, List.set_cons_succ])
        refine wpU_take (i := 1) (v := ?_) rfl (by decide) (by kernel_rfl) (by kernel_rfl) (by kernel_rfl) (by kernel_rfl) (fun _ _ _ h => h) (Or.inl ⟨by rfl, ?_⟩) (by assumption) ?_
        rotate_left
        · intro w9 hSw; (try dsimp only at hSw); go_simp; (first | done | with_reducible rfl)
        (try simp only [List.getElem_toArray, List.getElem_cons_succ, List.getElem_cons_zero, Act.put, List.setIfInBounds_toArray, List.set_cons_zero, List.set_cons_succ])
        refine wpU_step (i := 2) (by kernel_rfl) (by decide) rfl (fun K hK => ?_)
        go_simp
        refine (l3DrawFates_c cb n cap a _ HDr.out.dc (HB.out.chg HDr.out.chg)).mono ?_
        rintro e w9 ⟨fv, fates, rfl, hfl, O6, hD, hC⟩
        obtain ⟨xa, xc, rfl, -, -, -⟩ := row_open O6.view
        have HS6 := Lib.hid (HDr.out.dice hC hD)
        have HO6 := Lib.hid O6
        have l5 := HDr.out.size
        have z6 := hC.size
        clear O6
        (try go_wp2_with fail)
        refine hK.out _ _ ?_ (fun hHeld2 => ?_)
        · (try dsimp only); (obtain ⟨s0, s1, s2, s3⟩ := hHeld; exact ⟨cell_chg s0 hC (by omega), cell_chg s1 hC (by omega), cell_chg s2 hC (by omega), cell_chg s3 hC (by omega)⟩)
        clear hK K hHeld
        rename _ => hHeld
        (try simp only [List.getElem_toArray, List.getElem_cons_succ, List.getElem_cons_zero, Act.put, List.setIfInBounds_toArray, List.set_cons_zero, List.set_cons_succ])
        refine wpU_step (i := 3) (by kernel_rfl) (by decide) rfl (fun K hK => ?_)
        clear hC hD
        go_simp
        refine (specBothFallen_c _ t7 _ fates _ HS6.out.view HO6.out.view (by omega)).mono ?_
        rintro e w10 ⟨u9, v9, u8, v8, rfl, X7, O7⟩
        have hok9 := Lib.hid (twoOk_fallen hok7.out fates)
        obtain ⟨⟨pa9, pc9, rfl⟩, ⟨qa9, qc9, rfl⟩, ⟨ra9, rc9, rfl⟩, sa9, sc9, rfl⟩ := two_formV O7.view
        generalize bothFallen t7 fates = t9 at *
        have HS7 := Lib.hid (HS6.out.grow X7)
        have HO7 := Lib.hid O7
        have z7 := X7.size
        clear O7
        (try go_wp2_with fail)
        refine hK.out _ _ ?_ (fun hHeld2 => ?_)
        · (try dsimp only); (obtain ⟨s0, s1, s2, s3⟩ := hHeld; exact ⟨cell_ext s0 X7, cell_ext s1 X7, cell_ext s2 X7, cell_ext s3 X7⟩)
        clear hK K hHeld
        rename _ => hHeld
        (try simp only [List.getElem_toArray, List.getElem_cons_succ, List.getElem_cons_zero, Act.put, List.setIfInBounds_toArray, List.set_cons_zero, List.set_cons_succ])
        refine wpU_store (by kernel_rfl) rfl (fun K hK => ?_)
        clear X7 hHeld
        have b0 := HS7.out.box.cell 0 _ rfl; have b1 := HS7.out.box.cell 1 _ rfl; have b2 := HS7.out.box.cell 2 _ rfl; have b3 := HS7.out.box.cell 3 _ rfl; have bf := HS7.out.box.fr; have bl := HS7.out.box.lt
        clear c0 c1 c2 c3
        go_simp
        refine hK.out _ _ ?_
        clear hK K
        (try simp only [List.getElem_toArray, List.getElem_cons_succ, List.getElem_cons_zero, Act.put, List.setIfInBounds_toArray, List.set_cons_zero, List.set_cons_succ])
        refine wpAny_done (by kernel_rfl) ?_ _
        have HS9 := Lib.hid (HS7.out.put HO7.out (by omega))
        clear b0 b1 b2 b3 bf bl HS7 HO7 HS6 HO6 HDr HS8
        generalize ((((w10.setCell ⟨w2.heap.size, 0, none⟩ (.slice pa9 t9.1.1.length pc9)).setCell ⟨w2.heap.size, 1, none⟩ (.slice qa9 t9.1.2.length qc9)).setCell ⟨w2.heap.size, 2, none⟩ (.slice ra9 t9.2.1.length rc9)).setCell ⟨w2.heap.size, 3, none⟩ (.slice sa9 t9.2.2.length sc9)) = wz at *
        go_wp2
        go_roundw
        case rel => exact ⟨k - 1, _, _, _, _, _, _, _, _, t9, by omega, by first | rfl | go_num, Lib.hid ⟨HS9.out, hok9.out⟩⟩
        case measure => simp [intOf]; omega
      · have c0 := HS8.out.box.cell 0 _ rfl; have c1 := HS8.out.box.cell 1 _ rfl; have c2 := HS8.out.box.cell 2 _ rfl; have c3 := HS8.out.box.cell 3 _ rfl; have zb8 := HS8.out.lt; have lb8 := HS8.out.size
        have hlen7 := Lib.hid (twoOk_len hok7.out)
        have HDr : Hid (TS a n cap cb w.heap.size w2.heap.size w w8.drew (.slice pa7 t7.1.1.length pc7) (.slice qa7 t7.1.2.length qc7) (.slice ra7 t7.2.1.length rc7) (.slice sa7 t7.2.2.length sc7) t7) := Lib.hid (HS8.out.grow (Ext.drew _))
        go_wp2
        refine wp_region_U (S := fun ω => ω.cell? ⟨w2.heap.size, 0, none⟩ = some (.slice pa7 t7.1.1.length pc7) ∧ ω.cell? ⟨w2.heap.size, 1, none⟩ = some (.slice qa7 t7.1.2.length qc7) ∧ ω.cell? ⟨w2.heap.size, 2, none⟩ = some (.slice ra7 t7.2.1.length rc7) ∧ ω.cell? ⟨w2.heap.size, 3, none⟩ = some (.slice sa7 t7.2.2.length sc7)) 17 (by kernel_rfl) ?_ (fun hHeld => ?_)
        · (try dsimp only); exact ⟨c0, c1, c2, c3⟩
        refine wpU_take (i := 0) (v := ?_) rfl (by decide) (by kernel_rfl) (by kernel_rfl) (by kernel_rfl) (by kernel_rfl) (fun _ _ _ h => h) (Or.inl ⟨by rfl, ?_⟩) (by assumption) ?_
        rotate_left
        · intro w9 hSw; (try dsimp only at hSw); go_simp; (first | done | with_reducible rfl)
        (try simp only [List.getElem_toArray, List.getElem_cons_succ, List.getElem_cons_zero, Act.put, List.setIfInBounds_toArray, List.set_cons_zero, List.set_cons_succ])
        refine wpU_take (i := 1) (v := ?_) rfl (by decide) (by kernel_rfl) (by kernel_rfl) (by kernel_rfl) (by kernel_rfl) (fun _ _ _ h => h) (Or.inl ⟨by rfl, ?_⟩) (by assumption) ?_
        rotate_left
        · intro w9 hSw; (try dsimp only at hSw); go_simp; (first | done | with_reducible rfl)
        (try simp only [List.getElem_toArray, List.getElem_cons_succ, List.getElem_cons_zero, Act.put, List.setIfInBounds_toArray, List.set_cons_zero, List.set_cons_succ])
        refine wpU_take (i := 2) (v := ?_) rfl (by decide) (by kernel_rfl) (by kernel_rfl) (by kernel_rfl) (by kernel_rfl) (fun _ _ _ h => h) (Or.inl ⟨by rfl, ?_⟩) (by assumption) ?_
        rotate_left
        · intro w9 hSw; (try dsimp only at hSw); go_simp; (first | done | with_reducible rfl)
        (try simp only [List.getElem_toArray, List.getElem_cons_succ, List.getElem_cons_zero, Act.put, List.setIfInBounds_toArray, List.set_cons_zero, List.set_cons_succ])
        refine wpU_take (i := 3) (v := ?_) rfl (by decide) (by kernel_rfl) (by kernel_rfl) (by kernel_rfl) (by kernel_rfl) (fun _ _ _ h => h) (Or.inl ⟨by rfl, ?_⟩) (by assumption) ?_
        rotate_left
        · intro w9 hSw; (try dsimp only at hSw); go_simp; (first | done | with_reducible rfl)
        (try simp only [List.getElem_toArray, List.getElem_cons_succ, List.getElem_cons_zero, Act.put, List.setIfInBounds_toArray, List.set_cons_zero, List.set_cons_succ])
        refine wpU_take (i := 4) (v := ?_) rfl (by decide) (by kernel_rfl) (by kernel_rfl) (by kernel_rfl) (by kernel_rfl) (fun _ _ _ h => h) (Or.inl ⟨by rfl, ?_⟩) (by assumption) ?_
        rotate_left
        · intro w9 hSw; (try dsimp only at hSw); go_simp; (first | done | with_reducible rfl)
        (try simp only [List.getElem_toArray, List.getElem_cons_succ, List.getElem_cons_zero, Act.put, List.setIfInBounds_toArray, List.set_cons_zero, List.set_cons_succ])
        refine wpU_take (i := 5) (v := ?_) rfl (by decide) (by kernel_rfl) (by kernel_rfl) (by kernel_rfl) (by kernel_rfl) (fun _ _ _ h => h) (Or.inl ⟨by rfl, ?_⟩) (by assumption) ?_
        rotate_left
        · intro w9 hSw; (try dsimp only at hSw); go_simp; (first | done | with_reducible rfl)
        (try simp only [List.getElem_toArray, List.getElem_cons_succ, List.getElem_cons_zero, Act.put, List.setIfInBounds_toArray, List.set_cons_zero, List.set_cons_succ])
        refine wpU_take (i := 6) (v := ?_) rfl (by decide) (by kernel_rfl) (by kernel_rfl) (by kernel_rfl) (by kernel_rfl) (fun _ _ _ h => h) (Or.inl ⟨by rfl, ?_⟩) (by assumption) ?_
        rotate_left
        · intro w9 hSw; (try dsimp only at hSw); go_simp; (first | done | with_reducible rfl)
        (try simp only [List.getElem_toArray, List.getElem_cons_succ, List.getElem_cons_zero, Act.put, List.setIfInBounds_toArray, List.set_cons_zero, List.set_cons_succ])
        refine wpU_take (i := 8) (v := ?_) rfl (by decide) (by kernel_rfl) (by kernel_rfl) (by kernel_rfl) (by kernel_rfl) (fun _ _ _ h => h) (Or.inl ⟨by rfl, ?_⟩) (by assumption) ?_
        rotate_left
        · intro w9 hSw; (try dsimp only at hSw); go_simp; (first | done | with_reducible rfl)
        (try simp only [List.getElem_toArray, List.getElem_cons_succ, List.getElem_cons_zero, Act.put, List.setIfInBounds_toArray, List.set_cons_zero, List.set_cons_succ])
        refine wpU_take (i := 10) (v := ?_) rfl (by decide) (by kernel_rfl) (by kernel_rfl) (by kernel_rfl) (by kernel_rfl) (fun _ _ _ h => h) (Or.inl ⟨by rfl, ?_⟩) (by assumption) ?_
        rotate_left
        · intro w9 hSw; (try dsimp only at hSw); go_simp; (first | done | with_reducible rfl)
        (try simp only [List.getElem_toArray, List.getElem_cons_succ, List.getElem_cons_zero, Act.put, List.setIfInBounds_toArray, List.set_cons_zero, List.set_cons_succ])
        refine wpU_step (i := 7) (by kernel_rfl) (by decide) rfl (fun K hK => ?_)
        go_simp
        refine (l1Below_c cb n cap a t7.1.1.length _ (by have := hlen7.out; omega) HDr.out.dc (HB.out.chg HDr.out.chg)).mono ?_
        rintro e w11 ⟨y1, hy10, hy11, rfl, hD, hC⟩
        have HS11 := Lib.hid (HDr.out.dice hC hD)
        (try go_wp2_with fail)
        refine hK.out _ _ ?_ (fun hHeld2 => ?_)
        · (try dsimp only); (obtain ⟨s0, s1, s2, s3⟩ := hHeld; exact ⟨cell_chg s0 hC (by omega), cell_chg s1 hC (by omega), cell_chg s2 hC (by omega), cell_chg s3 hC (by omega)⟩)
        clear hK K hHeld
        rename _ => hHeld
        (try simp only [List.getElem_toArray, List.getElem_cons_succ, List.getElem_cons_zero, Act.put, List.setIfInBounds_toArray, List.set_cons_zero, List.set_cons_succ])
        refine wpU_step (i := 9) (by kernel_rfl) (by decide) rfl (fun K hK => ?_)
        clear hC hD
        go_simp
        refine (l1Below_c cb n cap a 4 _ (by omega) HS11.out.dc (HB.out.chg HS11.out.chg)).mono ?_
        rintro e w12 ⟨y2, hy20, hy21, rfl, hD, hC⟩
        have HS12 := Lib.hid (HS11.out.dice hC hD)
        (try go_wp2_with fail)
        refine hK.out _ _ ?_ (fun hHeld2 => ?_)
        · (try dsimp only); (obtain ⟨s0, s1, s2, s3⟩ := hHeld; exact ⟨cell_chg s0 hC (by omega), cell_chg s1 hC (by omega), cell_chg s2 hC (by omega), cell_chg s3 hC (by omega)⟩)
        clear hK K hHeld
        rename _ => hHeld
        (try simp only [List.getElem_toArray, List.getElem_cons_succ, List.getElem_cons_zero, Act.put, List.setIfInBounds_toArray, List.set_cons_zero, List.set_cons_succ])
        refine wpU_step (i := 11) (by kernel_rfl) (by decide) rfl (fun K hK => ?_)
        clear hC hD
        go_simp
        refine (l1Below_c cb n cap a 90 _ (by omega) HS12.out.dc (HB.out.chg HS12.out.chg)).mono ?_
        rintro e w13 ⟨y3, hy30, hy31, rfl, hD, hC⟩
        have HS13 := Lib.hid (HS12.out.dice hC hD)
        (try go_wp2_with fail)
        refine hK.out _ _ ?_ (fun hHeld2 => ?_)
        · (try dsimp only); (obtain ⟨s0, s1, s2, s3⟩ := hHeld; exact ⟨cell_chg s0 hC (by omega), cell_chg s1 hC (by omega), cell_chg s2 hC (by omega), cell_chg s3 hC (by omega)⟩)
        clear hK K hHeld
        rename _ => hHeld
        (try simp only [List.getElem_toArray, List.getElem_cons_succ, List.getElem_cons_zero, Act.put, List.setIfInBounds_toArray, List.set_cons_zero, List.set_cons_succ])
        refine wpU_step (i := 12) (by kernel_rfl) (by decide) rfl (fun K hK => ?_)
        clear hC hD
        go_simp
        refine (specRotted_c _ t7.2 y1 y2 y3 _ (two_B HS13.out.view)).mono ?_
        rintro e w14 ⟨u9, v9, rfl, X7, O7⟩
        have hok9 := Lib.hid (twoOk_rot hok7.out y1 y2 y3)
        obtain ⟨⟨ra9, rc9, rfl⟩, sa9, sc9, rfl⟩ := disk_form O7
        generalize (rotted t7.2 y1 y2 y3).1 = d9 at *
        generalize (rotted t7.2 y1 y2 y3).2 = o9 at *
        have HS14 := Lib.hid (HS13.out.grow X7)
        have HO7 := Lib.hid O7
        have z7 := X7.size
        have l13 := HS13.out.size
        have HPB := Lib.hid (HS13.out.putB' HS14.out (X7.chg _ _) O7 (Nat.le_refl _))
        clear O7
        (try go_wp2_with fail)
        refine hK.out _ _ ?_ (fun hHeld2 => ?_)
        · (try dsimp only); (obtain ⟨s0, s1, s2, s3⟩ := hHeld; exact ⟨cell_ext s0 X7, cell_ext s1 X7, cell_ext s2 X7, cell_ext s3 X7⟩)
        clear hK K hHeld
        rename _ => hHeld
        (try simp only [List.getElem_toArray, List.getElem_cons_succ, List.getElem_cons_zero, Act.put, List.setIfInBounds_toArray, List.set_cons_zero, List.set_cons_succ])
        refine wpU_take (i := 13) (v := ?_) rfl (by decide) (by kernel_rfl) (by kernel_rfl) (by kernel_rfl) (by kernel_rfl) (fun _ _ _ h => h) (Or.inl ⟨by rfl, ?_⟩) (by assumption) ?_
        rotate_left
        · intro w9 hSw; (try dsimp only at hSw); go_simp; (first | done | with_reducible rfl)
        (try simp only [List.getElem_toArray, List.getElem_cons_succ, List.getElem_cons_zero, Act.put, List.setIfInBounds_toArray, List.set_cons_zero, List.set_cons_succ])
        refine wpU_take (i := 14) (v := ?_) rfl (by decide) (by kernel_rfl) (by kernel_rfl) (by kernel_rfl) (by kernel_rfl) (fun _ _ _ h => h) (Or.inl ⟨by rfl, ?_⟩) (by assumption) ?_
        rotate_left
        · intro w9 hSw; (try dsimp only at hSw); go_simp; (first | done | with_reducible rfl)
        (try simp only [List.getElem_toArray, List.getElem_cons_succ, List.getElem_cons_zero, Act.put, List.setIfInBounds_toArray, List.set_cons_zero, List.set_cons_succ])
        refine wpU_pure (i := 15) (v := ?_) rfl (by decide) (by kernel_rfl) (by kernel_rfl) (by kernel_rfl) (fun _ _ _ h => h) (Or.inl ⟨by rfl, ?_⟩) (by assumption) ?_
        rotate_left
        · intro w9; go_simp; (first | done | with_reducible rfl)
        (try simp only [List.getElem_toArray, List.getElem_cons_succ, List.getElem_cons_zero, Act.put, List.setIfInBounds_toArray, List.set_cons_zero, List.set_cons_succ])
        refine wpU_take (i := 16) (v := ?_) rfl (by decide) (by kernel_rfl) (by kernel_rfl) (by kernel_rfl) (by kernel_rfl) (fun _ _ _ h => h) (Or.inl ⟨by rfl, ?_⟩) (by assumption) ?_
        rotate_left
        · intro w9 hSw; (try dsimp only at hSw); go_simp; (first | done | with_reducible rfl)
        (try simp only [List.getElem_toArray, List.getElem_cons_succ, List.getElem_cons_zero, Act.put, List.setIfInBounds_toArray, List.set_cons_zero, List.set_cons_succ])
        refine wpU_store (by kernel_rfl) rfl (fun K hK => ?_)
        clear X7 hHeld
        have b0 := HS14.out.box.cell 0 _ rfl; have b1 := HS14.out.box.cell 1 _ rfl; have b2 := HS14.out.box.cell 2 _ rfl; have b3 := HS14.out.box.cell 3 _ rfl; have bf := HS14.out.box.fr; have bl := HS14.out.box.lt
        clear c0 c1 c2 c3
        go_simp
        refine hK.out _ _ ?_
        clear hK K
        (try simp only [List.getElem_toArray, List.getElem_cons_succ, List.getElem_cons_zero, Act.put, List.setIfInBounds_toArray, List.set_cons_zero, List.set_cons_succ])
        refine wpAny_done (by kernel_rfl) ?_ _
        clear b0 b1 b2 b3 bf bl HS14 HS13 HS12 HS11 HO7 HDr HS8
        generalize ((w14.setCell ⟨w2.heap.size, 2, none⟩ (.slice ra9 d9.1.length rc9)).setCell ⟨w2.heap.size, 3, none⟩ (.slice sa9 d9.2.length sc9)) = wz at *
        go_wp2
        go_roundw
        case rel => exact ⟨k - 1, _, _, _, _, _, _, _, _, (t7.1, d9), by omega, by first | rfl | go_num, Lib.hid ⟨HPB.out, hok9.out⟩⟩
        case measure => simp [intOf]; omega
      · have e0 : decide (q = 0) = false := decide_eq_false q0
        have f0 : (q == 0) = false := by rw [beq_eq_false_iff_ne]; exact q0
        have e1 : decide (q = 1) = false := decide_eq_false q1
        have f1 : (q == 1) = false := by rw [beq_eq_false_iff_ne]; exact q1
        have e2 : decide (q = 2) = false := decide_eq_false q2
        have f2 : (q == 2) = false := by rw [beq_eq_false_iff_ne]; exact q2
        clear q0 q1 q2
        go_wp2
        go_roundw
        case rel => exact ⟨k - 1, _, _, _, _, _, _, _, _, t7, by omega, by first | rfl | go_num, Lib.hid ⟨HS8.out, hok7.out⟩⟩
        case measure => simp [intOf]; omega
    · have hd : decide ((0 : Int) < k) = false := by rw [decide_eq_false_iff_not]; omega
      have r0 := HI.out.1.res.cell 0 _ rfl; have r1 := HI.out.1.res.cell 1 _ rfl; have r2 := HI.out.1.res.cell 2 _ rfl; have r3 := HI.out.1.res.cell 3 _ rfl; have rf := HI.out.1.res.fr; have rl := HI.out.1.res.lt
      have HR := Lib.hid HI.out.1.ret
      have k0 := HR.out.2.2.2.cell 0 _ rfl; have k1 := HR.out.2.2.2.cell 1 _ rfl; have k2 := HR.out.2.2.2.cell 2 _ rfl; have k3 := HR.out.2.2.2.cell 3 _ rfl
      go_wp2
      refine bodyPost_ret (v := .agg #[.slice pa t.1.1.length pc, .slice qa t.1.2.length qc, .slice ra t.2.1.length rc, .slice sa t.2.2.length sc]) (by simp [results, Try.results99, go_sem, k0, k1, k2, k3]) rfl ⟨_, _, _, _, t, rfl, HI.out.2, HR.out.1, HR.out.2.1, HR.out.2.2.1⟩

end Go.Proofs.Ytbapomhoipdanaa
