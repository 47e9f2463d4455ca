/- The draws: the arguments of Spread (begun). -/
import Derived.Test.YtdkhghnhggedbaaDr7
set_option linter.unusedVariables false
set_option linter.unusedSimpArgs false
namespace Go.Proofs.Ytdkhghnhggedbaa
open Go.RowKit Go.Sl

set_option maxHeartbeats 800000 in
theorem drawSpread_c (n cap : Nat) (a : Option Addr) (w : World) (hn : n ≤ 1000000) (hb : ∀ j, j < n → ∃ (b off : Nat) (x : Int), a = some ⟨b, off, none⟩ ∧ w.cell? ⟨b, off + j, none⟩ = some (.int .u8 x)) :
    Calls Try.prog 37 #[.slice a n cap] w fun e w' => ∃ x many m : Int, e = .returned (.tuple #[dice x, .int .i64 many, .int .i64 m]) ∧ Ext w w' := by
  go_enter Try.func37, Try.ntmps37
  go_wp2_with fail
  refine (l1New_c n cap a _ hn (fun j hj => by obtain ⟨b, off, x, e, hc⟩ := hb j hj; exact ⟨b, off, x, e, cell_ext hc (Ext.alloc _ _)⟩)).mono ?_
  rintro e w1 ⟨cb, rfl, hcb, hD1, hb1, X1⟩
  have hz : w.heap.size + 1 ≤ cb := by simpa using hcb
  have hB1 := (Bx.new w _ _ w.heap.size rfl).ext X1
  have X1' := (Ext.alloc _ _).trans X1
  go_wp2_with fail
  refine (l2Draw_c cb n cap a _ hD1 hb1).mono ?_
  rintro e w2 ⟨x, hx0, hx1, rfl, hD2, hC2⟩
  have hb2 := hb1.chg hC2
  have hB2 := hB1.chg hC2 (Or.inl (by omega))
  have X2 := Chg.ext X1' hC2 (by omega)
  have hlt := hD2.lt
  go_wp2_with fail
  refine (l1Num_c cb n cap a 64 _ (by omega) (by omega) (hD2.ext (Ext.alloc _ _)) (hb2.ext (Ext.alloc _ _))).mono ?_
  rintro e w3 ⟨m0, hm0, hm1, rfl, hD3, hC3⟩
  have hb3 := (hb2.ext (Ext.alloc _ _)).chg hC3
  have hB3 := (hB2.ext (Ext.alloc _ _)).chg hC3 (Or.inl (by omega))
  have hG3 := (Bx.new w2 _ _ w2.heap.size rfl).chg hC3 (Or.inr hlt)
  have X3 := Chg.ext (X2.trans (Ext.alloc _ _)) hC3 (by omega)
  go_wp2_with fail
  refine (l1Once_c cb n cap a 4 _ (by omega) hD3 hb3).mono ?_
  rintro e w4 ⟨q, rfl, hD4, hC4⟩
  have hb4 := hb3.chg hC4
  have hB4 := hB3.chg hC4 (Or.inl (by omega))
  have hG4 := hG3.chg hC4 (Or.inr hlt)
  have X4 := Chg.ext X3 hC4 (by omega)
  cases q
  · go_wp2_with fail
    refine (l1Below_c cb n cap a 9 _ (by omega) hD4 hb4).mono ?_
    rintro e w5 ⟨m1, hm2, hm3, rfl, hD5, hC5⟩
    have hb5 := hb4.chg hC5
    have hB5 := hB4.chg hC5 (Or.inl (by omega))
    have hG5 := hG4.chg hC5 (Or.inr hlt)
    have X5 := Chg.ext X4 hC5 (by omega)
    go_wp2_with fail
    refine (l1Once_c cb n cap a 6 _ (by omega) hD5 hb5).mono ?_
    rintro e w6 ⟨q, rfl, hD6, hC6⟩
    have hb6 := hb5.chg hC6
    have hB6 := hB5.chg hC6 (Or.inl (by omega))
    have hG6 := hG5.chg hC6 (Or.inr hlt)
    have X6 := Chg.ext X5 hC6 (by omega)
    clear hB5 hG5 X5 hD5 hb5 hC5 hB4 hG4 X4 hD4 hb4 hC6 hC4 hB3 hG3 hD3 hb3 hC3
    cases q
    · go_wp2_with fail
      refine wp_region_T (S := fun ω => Bx ω w2.heap.size [.int .i64 x] ∧ (∃ y, Bx ω w.heap.size [.int .i64 y]) ∧ Ext w ω) 7 (by kernel_rfl) ?_ (fun hHeld => ?_) (by decide)
      · exact ⟨hG6.ext (Ext.drewN _ _), ⟨_, hB6.ext (Ext.drewN _ _)⟩, X6.trans (Ext.drewN _ _)⟩
      refine wpT_take (i := 0) (v := dice x) rfl (by kernel_rfl) (by decide) (by kernel_rfl) (by kernel_rfl) (by kernel_rfl) (fun _ _ _ h => h) (Or.inl ⟨by rfl, ?_⟩) (by assumption) ?_
      · intro w9 hSw
        have c9 := hSw.1.cell 0 _ rfl
        (try dsimp only at hSw); go_simp; (first | done | with_reducible rfl)
      (try simp only [List.getElem_toArray, List.getElem_cons_succ, List.getElem_cons_zero, Act.put, List.setIfInBounds_toArray, List.set_cons_zero, List.set_cons_succ])
      refine wpT_take (i := 1) (v := ?_) rfl (by kernel_rfl) (by decide) (by kernel_rfl) (by kernel_rfl) (by kernel_rfl) (fun _ _ _ h => h) (Or.inl ⟨by rfl, ?_⟩) (by assumption) ?_
      rotate_left
      · intro w9 hSw; (try dsimp only at hSw); go_simp; (first | done | with_reducible rfl)
      (try simp only [List.getElem_toArray, List.getElem_cons_succ, List.getElem_cons_zero, Act.put, List.setIfInBounds_toArray, List.set_cons_zero, List.set_cons_succ])
      refine wpT_take (i := 2) (v := ?_) rfl (by kernel_rfl) (by decide) (by kernel_rfl) (by kernel_rfl) (by kernel_rfl) (fun _ _ _ h => h) (Or.inl ⟨by rfl, ?_⟩) (by assumption) ?_
      rotate_left
      · intro w9 hSw; (try dsimp only at hSw); go_simp; (first | done | with_reducible rfl)
      (try simp only [List.getElem_toArray, List.getElem_cons_succ, List.getElem_cons_zero, Act.put, List.setIfInBounds_toArray, List.set_cons_zero, List.set_cons_succ])
      refine wpT_step (i := 3) (by kernel_rfl) (by decide) rfl (fun K hK => ?_)
      obtain ⟨hG7, ⟨y7, hB7⟩, X7⟩ := hHeld
      go_simp
      refine (l1Below_c cb n cap a 20 _ (by omega) (hD6.ext (Ext.drewN _ _)) (hb6.ext (Ext.drewN _ _))).mono ?_
      rintro e w8 ⟨m2, hm2, hm3, rfl, hD8, hC8⟩
      (try go_wp2_with fail)
      have hB8 := hB7.chg hC8 (Or.inl (by omega))
      have hG8 := hG7.chg hC8 (Or.inr hlt)
      have X8 := Chg.ext X7 hC8 (by omega)
      refine hK.out _ _ ⟨hG8, ⟨_, hB8⟩, X8⟩ (fun hHeld2 => ?_)
      clear hK K
      (try simp only [List.getElem_toArray, List.getElem_cons_succ, List.getElem_cons_zero, Act.put, List.setIfInBounds_toArray, List.set_cons_zero, List.set_cons_succ])
      have hw8 : IntKind.i64.wrap (1 + m2) = 1 + m2 := IntWalk.i64_in _ (by omega)
      refine wpT_take (i := 4) (v := .int .i64 (1 + m2)) rfl (by kernel_rfl) (by decide) (by kernel_rfl) (by kernel_rfl) (by kernel_rfl) (fun _ _ _ h => h) (Or.inl ⟨by rfl, ?_⟩) hHeld2 ?_
      · intro w9 hSw; (try dsimp only at hSw); go_simp; (first | done | with_reducible rfl)
      (try simp only [List.getElem_toArray, List.getElem_cons_succ, List.getElem_cons_zero, Act.put, List.setIfInBounds_toArray, List.set_cons_zero, List.set_cons_succ])
      refine wpT_step (i := 5) (by kernel_rfl) (by decide) rfl (fun K hK => ?_)
      have c0 := hB8.cell 0 _ rfl
      have f0 := hB8.fr
      go_simp
      have hc9 := World.cell?_setCell_same w8 ⟨w.heap.size, 0, none⟩ (.int .i64 x) c0
      have X9 : Ext w (w8.setCell ⟨w.heap.size, 0, none⟩ (.int .i64 x)) := X8.pSet (Nat.le_refl _) _
      refine hK.out _ _ ⟨hG8.set_other (by omega) _, ⟨_, Bx.set10 hB8 _⟩, X9⟩ (fun hHeld3 => ?_)
      clear hK K
      (try simp only [List.getElem_toArray, List.getElem_cons_succ, List.getElem_cons_zero, Act.put, List.setIfInBounds_toArray, List.set_cons_zero, List.set_cons_succ])
      refine wpT_step (i := 6) (by kernel_rfl) (by decide) rfl (fun K hK => ?_)
      go_simp
      refine hK.out _ _ hHeld3 (fun hHeld4 => ?_)
      clear hK K
      (try simp only [List.getElem_toArray, List.getElem_cons_succ, List.getElem_cons_zero, Act.put, List.setIfInBounds_toArray, List.set_cons_zero, List.set_cons_succ])
      refine wpT_last (by kernel_rfl) (by kernel_rfl) rfl (fun K hK => ?_)
      go_simp
      refine hK.out _ _ ?_
      clear hK K
      go_wp2
      refine bodyPost_ret (v := .tuple #[dice x, .int .i64 m1, .int .i64 (1 + m2)]) (by simp [results, Try.results37, go_sem, hc9]) rfl ⟨x, m1, 1 + m2, rfl, X9⟩
    · go_wp2_with fail
      refine wp_region_T (S := fun ω => Bx ω w2.heap.size [.int .i64 x] ∧ (∃ y, Bx ω w.heap.size [.int .i64 y]) ∧ Ext w ω) 6 (by kernel_rfl) ?_ (fun hHeld => ?_) (by decide)
      · exact ⟨hG6.ext (Ext.drewN _ _), ⟨_, hB6.ext (Ext.drewN _ _)⟩, X6.trans (Ext.drewN _ _)⟩
      refine wpT_take (i := 0) (v := dice x) rfl (by kernel_rfl) (by decide) (by kernel_rfl) (by kernel_rfl) (by kernel_rfl) (fun _ _ _ h => h) (Or.inl ⟨by rfl, ?_⟩) (by assumption) ?_
      · intro w9 hSw
        have c9 := hSw.1.cell 0 _ rfl
        (try dsimp only at hSw); go_simp; (first | done | with_reducible rfl)
      (try simp only [List.getElem_toArray, List.getElem_cons_succ, List.getElem_cons_zero, Act.put, List.setIfInBounds_toArray, List.set_cons_zero, List.set_cons_succ])
      refine wpT_take (i := 1) (v := ?_) rfl (by kernel_rfl) (by decide) (by kernel_rfl) (by kernel_rfl) (by kernel_rfl) (fun _ _ _ h => h) (Or.inl ⟨by rfl, ?_⟩) (by assumption) ?_
      rotate_left
      · intro w9 hSw; (try dsimp only at hSw); go_simp; (first | done | with_reducible rfl)
      (try simp only [List.getElem_toArray, List.getElem_cons_succ, List.getElem_cons_zero, Act.put, List.setIfInBounds_toArray, List.set_cons_zero, List.set_cons_succ])
      refine wpT_take (i := 2) (v := ?_) rfl (by kernel_rfl) (by decide) (by kernel_rfl) (by kernel_rfl) (by kernel_rfl) (fun _ _ _ h => h) (Or.inl ⟨by rfl, ?_⟩) (by assumption) ?_
      rotate_left
      · intro w9 hSw; (try dsimp only at hSw); go_simp; (first | done | with_reducible rfl)
      (try simp only [List.getElem_toArray, List.getElem_cons_succ, List.getElem_cons_zero, Act.put, List.setIfInBounds_toArray, List.set_cons_zero, List.set_cons_succ])
      refine wpT_step (i := 3) (by kernel_rfl) (by decide) rfl (fun K hK => ?_)
      obtain ⟨hG7, ⟨y7, hB7⟩, X7⟩ := hHeld
      go_simp
      refine (l1Num_c cb n cap a 1000000000 _ (by omega) (by omega) (hD6.ext (Ext.drewN _ _)) (hb6.ext (Ext.drewN _ _))).mono ?_
      rintro e w8 ⟨m2, hm2, hm3, rfl, hD8, hC8⟩
      (try go_wp2_with fail)
      have hB8 := hB7.chg hC8 (Or.inl (by omega))
      have hG8 := hG7.chg hC8 (Or.inr hlt)
      have X8 := Chg.ext X7 hC8 (by omega)
      refine hK.out _ _ ⟨hG8, ⟨_, hB8⟩, X8⟩ (fun hHeld2 => ?_)
      clear hK K
      (try simp only [List.getElem_toArray, List.getElem_cons_succ, List.getElem_cons_zero, Act.put, List.setIfInBounds_toArray, List.set_cons_zero, List.set_cons_succ])
      refine wpT_step (i := 4) (by kernel_rfl) (by decide) rfl (fun K hK => ?_)
      have c0 := hB8.cell 0 _ rfl
      have f0 := hB8.fr
      go_simp
      have hc9 := World.cell?_setCell_same w8 ⟨w.heap.size, 0, none⟩ (.int .i64 x) c0
      have X9 : Ext w (w8.setCell ⟨w.heap.size, 0, none⟩ (.int .i64 x)) := X8.pSet (Nat.le_refl _) _
      refine hK.out _ _ ⟨hG8.set_other (by omega) _, ⟨_, Bx.set10 hB8 _⟩, X9⟩ (fun hHeld3 => ?_)
      clear hK K
      (try simp only [List.getElem_toArray, List.getElem_cons_succ, List.getElem_cons_zero, Act.put, List.setIfInBounds_toArray, List.set_cons_zero, List.set_cons_succ])
      refine wpT_step (i := 5) (by kernel_rfl) (by decide) rfl (fun K hK => ?_)
      go_simp
      refine hK.out _ _ hHeld3 (fun hHeld4 => ?_)
      clear hK K
      (try simp only [List.getElem_toArray, List.getElem_cons_succ, List.getElem_cons_zero, Act.put, List.setIfInBounds_toArray, List.set_cons_zero, List.set_cons_succ])
      refine wpT_last (by kernel_rfl) (by kernel_rfl) rfl (fun K hK => ?_)
      go_simp
      refine hK.out _ _ ?_
      clear hK K
      go_wp2
      refine bodyPost_ret (v := .tuple #[dice x, .int .i64 m1, .int .i64 m2]) (by simp [results, Try.results37, go_sem, hc9]) rfl ⟨x, m1, m2, rfl, X9⟩
  · go_wp2_with fail
    refine (l1Once_c cb n cap a 6 _ (by omega) hD4 hb4).mono ?_
    rintro e w6 ⟨q, rfl, hD6, hC6⟩
    have hb6 := hb4.chg hC6
    have hB6 := hB4.chg hC6 (Or.inl (by omega))
    have hG6 := hG4.chg hC6 (Or.inr hlt)
    have X6 := Chg.ext X4 hC6 (by omega)
    clear hB4 hG4 X4 hD4 hb4 hC6 hC4 hB3 hG3 hD3 hb3 hC3
    cases q
    · go_wp2_with fail
      refine wp_region_T (S := fun ω => Bx ω w2.heap.size [.int .i64 x] ∧ (∃ y, Bx ω w.heap.size [.int .i64 y]) ∧ Ext w ω) 7 (by kernel_rfl) ?_ (fun hHeld => ?_) (by decide)
      · exact ⟨hG6.ext (Ext.drewN _ _), ⟨_, hB6.ext (Ext.drewN _ _)⟩, X6.trans (Ext.drewN _ _)⟩
      refine wpT_take (i := 0) (v := dice x) rfl (by kernel_rfl) (by decide) (by kernel_rfl) (by kernel_rfl) (by kernel_rfl) (fun _ _ _ h => h) (Or.inl ⟨by rfl, ?_⟩) (by assumption) ?_
      · intro w9 hSw
        have c9 := hSw.1.cell 0 _ rfl
        (try dsimp only at hSw); go_simp; (first | done | with_reducible rfl)
      (try simp only [List.getElem_toArray, List.getElem_cons_succ, List.getElem_cons_zero, Act.put, List.setIfInBounds_toArray, List.set_cons_zero, List.set_cons_succ])
      refine wpT_take (i := 1) (v := ?_) rfl (by kernel_rfl) (by decide) (by kernel_rfl) (by kernel_rfl) (by kernel_rfl) (fun _ _ _ h => h) (Or.inl ⟨by rfl, ?_⟩) (by assumption) ?_
      rotate_left
      · intro w9 hSw; (try dsimp only at hSw); go_simp; (first | done | with_reducible rfl)
      (try simp only [List.getElem_toArray, List.getElem_cons_succ, List.getElem_cons_zero, Act.put, List.setIfInBounds_toArray, List.set_cons_zero, List.set_cons_succ])
      refine wpT_take (i := 2) (v := ?_) rfl (by kernel_rfl) (by decide) (by kernel_rfl) (by kernel_rfl) (by kernel_rfl) (fun _ _ _ h => h) (Or.inl ⟨by rfl, ?_⟩) (by assumption) ?_
      rotate_left
      · intro w9 hSw; (try dsimp only at hSw); go_simp; (first | done | with_reducible rfl)
      (try simp only [List.getElem_toArray, List.getElem_cons_succ, List.getElem_cons_zero, Act.put, List.setIfInBounds_toArray, List.set_cons_zero, List.set_cons_succ])
      refine wpT_step (i := 3) (by kernel_rfl) (by decide) rfl (fun K hK => ?_)
      obtain ⟨hG7, ⟨y7, hB7⟩, X7⟩ := hHeld
      go_simp
      refine (l1Below_c cb n cap a 20 _ (by omega) (hD6.ext (Ext.drewN _ _)) (hb6.ext (Ext.drewN _ _))).mono ?_
      rintro e w8 ⟨m2, hm2, hm3, rfl, hD8, hC8⟩
      (try go_wp2_with fail)
      have hB8 := hB7.chg hC8 (Or.inl (by omega))
      have hG8 := hG7.chg hC8 (Or.inr hlt)
      have X8 := Chg.ext X7 hC8 (by omega)
      refine hK.out _ _ ⟨hG8, ⟨_, hB8⟩, X8⟩ (fun hHeld2 => ?_)
      clear hK K
      (try simp only [List.getElem_toArray, List.getElem_cons_succ, List.getElem_cons_zero, Act.put, List.setIfInBounds_toArray, List.set_cons_zero, List.set_cons_succ])
      have hw8 : IntKind.i64.wrap (1 + m2) = 1 + m2 := IntWalk.i64_in _ (by omega)
      refine wpT_take (i := 4) (v := .int .i64 (1 + m2)) rfl (by kernel_rfl) (by decide) (by kernel_rfl) (by kernel_rfl) (by kernel_rfl) (fun _ _ _ h => h) (Or.inl ⟨by rfl, ?_⟩) hHeld2 ?_
      · intro w9 hSw; (try dsimp only at hSw); go_simp; (first | done | with_reducible rfl)
      (try simp only [List.getElem_toArray, List.getElem_cons_succ, List.getElem_cons_zero, Act.put, List.setIfInBounds_toArray, List.set_cons_zero, List.set_cons_succ])
      refine wpT_step (i := 5) (by kernel_rfl) (by decide) rfl (fun K hK => ?_)
      have c0 := hB8.cell 0 _ rfl
      have f0 := hB8.fr
      go_simp
      have hc9 := World.cell?_setCell_same w8 ⟨w.heap.size, 0, none⟩ (.int .i64 x) c0
      have X9 : Ext w (w8.setCell ⟨w.heap.size, 0, none⟩ (.int .i64 x)) := X8.pSet (Nat.le_refl _) _
      refine hK.out _ _ ⟨hG8.set_other (by omega) _, ⟨_, Bx.set10 hB8 _⟩, X9⟩ (fun hHeld3 => ?_)
      clear hK K
      (try simp only [List.getElem_toArray, List.getElem_cons_succ, List.getElem_cons_zero, Act.put, List.setIfInBounds_toArray, List.set_cons_zero, List.set_cons_succ])
      refine wpT_step (i := 6) (by kernel_rfl) (by decide) rfl (fun K hK => ?_)
      go_simp
      refine hK.out _ _ hHeld3 (fun hHeld4 => ?_)
      clear hK K
      (try simp only [List.getElem_toArray, List.getElem_cons_succ, List.getElem_cons_zero, Act.put, List.setIfInBounds_toArray, List.set_cons_zero, List.set_cons_succ])
      refine wpT_last (by kernel_rfl) (by kernel_rfl) rfl (fun K hK => ?_)
      go_simp
      refine hK.out _ _ ?_
      clear hK K
      go_wp2
      refine bodyPost_ret (v := .tuple #[dice x, .int .i64 m0, .int .i64 (1 + m2)]) (by simp [results, Try.results37, go_sem, hc9]) rfl ⟨x, m0, 1 + m2, rfl, X9⟩
    · go_wp2_with fail
      refine wp_region_T (S := fun ω => Bx ω w2.heap.size [.int .i64 x] ∧ (∃ y, Bx ω w.heap.size [.int .i64 y]) ∧ Ext w ω) 6 (by kernel_rfl) ?_ (fun hHeld => ?_) (by decide)
      · exact ⟨hG6.ext (Ext.drewN _ _), ⟨_, hB6.ext (Ext.drewN _ _)⟩, X6.trans (Ext.drewN _ _)⟩
      refine wpT_take (i := 0) (v := dice x) rfl (by kernel_rfl) (by decide) (by kernel_rfl) (by kernel_rfl) (by kernel_rfl) (fun _ _ _ h => h) (Or.inl ⟨by rfl, ?_⟩) (by assumption) ?_
      · intro w9 hSw
        have c9 := hSw.1.cell 0 _ rfl
        (try dsimp only at hSw); go_simp; (first | done | with_reducible rfl)
      (try simp only [List.getElem_toArray, List.getElem_cons_succ, List.getElem_cons_zero, Act.put, List.setIfInBounds_toArray, List.set_cons_zero, List.set_cons_succ])
      refine wpT_take (i := 1) (v := ?_) rfl (by kernel_rfl) (by decide) (by kernel_rfl) (by kernel_rfl) (by kernel_rfl) (fun _ _ _ h => h) (Or.inl ⟨by rfl, ?_⟩) (by assumption) ?_
      rotate_left
      · intro w9 hSw; (try dsimp only at hSw); go_simp; (first | done | with_reducible rfl)
      (try simp only [List.getElem_toArray, List.getElem_cons_succ, List.getElem_cons_zero, Act.put, List.setIfInBounds_toArray, List.set_cons_zero, List.set_cons_succ])
      refine wpT_take (i := 2) (v := ?_) rfl (by kernel_rfl) (by decide) (by kernel_rfl) (by kernel_rfl) (by kernel_rfl) (fun _ _ _ h => h) (Or.inl ⟨by rfl, ?_⟩) (by assumption) ?_
      rotate_left
      · intro w9 hSw; (try dsimp only at hSw); go_simp; (first | done | with_reducible rfl)
      (try simp only [List.getElem_toArray, List.getElem_cons_succ, List.getElem_cons_zero, Act.put, List.setIfInBounds_toArray, List.set_cons_zero, List.set_cons_succ])
      refine wpT_step (i := 3) (by kernel_rfl) (by decide) rfl (fun K hK => ?_)
      obtain ⟨hG7, ⟨y7, hB7⟩, X7⟩ := hHeld
      go_simp
      refine (l1Num_c cb n cap a 1000000000 _ (by omega) (by omega) (hD6.ext (Ext.drewN _ _)) (hb6.ext (Ext.drewN _ _))).mono ?_
      rintro e w8 ⟨m2, hm2, hm3, rfl, hD8, hC8⟩
      (try go_wp2_with fail)
      have hB8 := hB7.chg hC8 (Or.inl (by omega))
      have hG8 := hG7.chg hC8 (Or.inr hlt)
      have X8 := Chg.ext X7 hC8 (by omega)
      refine hK.out _ _ ⟨hG8, ⟨_, hB8⟩, X8⟩ (fun hHeld2 => ?_)
      clear hK K
      (try simp only [List.getElem_toArray, List.getElem_cons_succ, List.getElem_cons_zero, Act.put, List.setIfInBounds_toArray, List.set_cons_zero, List.set_cons_succ])
      refine wpT_step (i := 4) (by kernel_rfl) (by decide) rfl (fun K hK => ?_)
      have c0 := hB8.cell 0 _ rfl
      have f0 := hB8.fr
      go_simp
      have hc9 := World.cell?_setCell_same w8 ⟨w.heap.size, 0, none⟩ (.int .i64 x) c0
      have X9 : Ext w (w8.setCell ⟨w.heap.size, 0, none⟩ (.int .i64 x)) := X8.pSet (Nat.le_refl _) _
      refine hK.out _ _ ⟨hG8.set_other (by omega) _, ⟨_, Bx.set10 hB8 _⟩, X9⟩ (fun hHeld3 => ?_)
      clear hK K
      (try simp only [List.getElem_toArray, List.getElem_cons_succ, List.getElem_cons_zero, Act.put, List.setIfInBounds_toArray, List.set_cons_zero, List.set_cons_succ])
      refine wpT_step (i := 5) (by kernel_rfl) (by decide) rfl (fun K hK => ?_)
      go_simp
      refine hK.out _ _ hHeld3 (fun hHeld4 => ?_)
      clear hK K
      (try simp only [List.getElem_toArray, List.getElem_cons_succ, List.getElem_cons_zero, Act.put, List.setIfInBounds_toArray, List.set_cons_zero, List.set_cons_succ])
      refine wpT_last (by kernel_rfl) (by kernel_rfl) rfl (fun K hK => ?_)
      go_simp
      refine hK.out _ _ ?_
      clear hK K
      go_wp2
      refine bodyPost_ret (v := .tuple #[dice x, .int .i64 m0, .int .i64 m2]) (by simp [results, Try.results37, go_sem, hc9]) rfl ⟨x, m0, m2, rfl, X9⟩

end Go.Proofs.Ytdkhghnhggedbaa
