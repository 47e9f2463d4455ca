/- The draws: a generator. -/
import Derived.Test.YtdkhghnhggedbaaDr4
set_option linter.unusedVariables false
set_option linter.unusedSimpArgs false
namespace Go.Proofs.Ytdkhghnhggedbaa
open Go.RowKit Go.Sl

set_option maxHeartbeats 800000 in
theorem l2Draw_c (cb n cap : Nat) (a : Option Addr) (w : World) (hD : DC w cb a n cap) (hb : CodeAt w cb a n) :
    Calls Try.prog 63 #[.pointer (some ⟨cb, 0, none⟩)] w fun e w' => ∃ x : Int, -9223372036854775808 ≤ x ∧ x ≤ 9223372036854775807 ∧ e = .returned (dice x) ∧ DC w' cb a n cap ∧ Chg cb (cb + 1) w w' := by
  have hlt := hD.lt
  go_enter Try.func63, Try.ntmps63
  go_wp2_with fail
  refine (l1Once_c cb n cap a 6 _ (by omega) (hD.ext (Ext.alloc _ _)) (hb.ext (Ext.alloc _ _))).mono ?_
  rintro e w1 ⟨q, rfl, hD1, hC1⟩
  have hb1 := (hb.ext (Ext.alloc _ _)).chg hC1
  have C1 : Chg cb (cb + 1) w w1 := ((Ext.alloc _ _).chg _ _).trans hC1
  have hB1 := (Bx.new w _ _ w.heap.size rfl).chg hC1 (Or.inr hlt)
  have hne : cb ≠ w.heap.size := by omega
  clear hC1
  cases q
  · go_wp2_with fail
    refine (l1Below_c cb n cap a 999999937 _ (by omega) hD1 hb1).mono ?_
    rintro e w2 ⟨x, hx0, hx1, rfl, hD2, hC2⟩
    have hB2 := hB1.chg hC2 (Or.inr hlt)
    have c0 := hB2.cell 0 _ rfl
    have f0 := hB2.fr
    go_wp2
    have hc5 := World.cell?_setCell_same w2 ⟨w.heap.size, 0, none⟩ (.int .i64 x) c0
    have S5 := Chg.setCell w2 ⟨w.heap.size, 0, none⟩ (.int .i64 x) (lo := w.heap.size) (hi := w.heap.size + 1) (Nat.le_refl _) (Nat.lt_succ_self _)
    refine bodyPost_ret (v := dice x) (by simp [results, Try.results63, go_sem, hc5]) rfl ⟨x, by omega, by omega, rfl, hD2.far S5 (Or.inl hlt), Chg.new (C1.trans hC2) S5 (Nat.le_refl _)⟩
  · go_wp2_with fail
    refine (l1Num_c cb n cap a 999999936 _ (by omega) (by omega) hD1 hb1).mono ?_
    rintro e w2 ⟨x, hx0, hx1, rfl, hD2, hC2⟩
    have hB2 := hB1.chg hC2 (Or.inr hlt)
    have c0 := hB2.cell 0 _ rfl
    have f0 := hB2.fr
    go_wp2
    have hc5 := World.cell?_setCell_same w2 ⟨w.heap.size, 0, none⟩ (.int .i64 x) c0
    have S5 := Chg.setCell w2 ⟨w.heap.size, 0, none⟩ (.int .i64 x) (lo := w.heap.size) (hi := w.heap.size + 1) (Nat.le_refl _) (Nat.lt_succ_self _)
    refine bodyPost_ret (v := dice x) (by simp [results, Try.results63, go_sem, hc5]) rfl ⟨x, by omega, by omega, rfl, hD2.far S5 (Or.inl hlt), Chg.new (C1.trans hC2) S5 (Nat.le_refl _)⟩

end Go.Proofs.Ytdkhghnhggedbaa
