/- The draws: the cursor made, odd numbers. -/
import Derived.Test.YtbapomhoipdanaaDr
set_option linter.unusedVariables false
set_option linter.unusedSimpArgs false
namespace Go.Proofs.Ytbapomhoipdanaa
open Go.RowKit Go.Sl

set_option maxHeartbeats 800000 in
theorem l1New_c (n cap : Nat) (a : Option Addr) (w : World) (hn : n ≤ 1000000) (hb : ∀ j, j < n → ∃ (b off : Nat) (x : Int), a = some ⟨b, off, none⟩ ∧ w.cell? ⟨b, off + j, none⟩ = some (.int .u8 x)) :
    Calls Try.prog 73 #[.slice a n cap] w fun e w' => ∃ cb : Nat, e = .returned (.pointer (some ⟨cb, 0, none⟩)) ∧ w.heap.size ≤ cb ∧ DC w' cb a n cap ∧ CodeAt w' cb a n ∧ Ext w w' := by
  go_enter Try.func73, Try.ntmps73
  go_wp2
  go_loopw [3, 4] (fun v3 v4 wr => ∃ (i : Nat) (h : Int), v3 = .int .i64 h ∧ v4 = .int .i64 (i : Int) ∧ i ≤ n ∧ Ext w wr) (fun _ v4 _ => n - (intOf v4).toNat)
  case atStart => exact ⟨0, _, rfl, rfl, Nat.zero_le _, by repeat (first | with_reducible exact Ext.refl _ | with_reducible assumption | with_reducible refine Ext.pAlloc ?_ _ | ((with_reducible refine Ext.pSet ?_ ?_ _); rotate_left; (simp <;> omega)) | with_reducible refine Ext.pDrew ?_ | with_reducible refine Ext.pDrewN ?_ _)⟩
  case round =>
    obtain ⟨i, h, rfl, rfl, hi, X⟩ := hrel
    by_cases hlt : i < n
    · obtain ⟨b, off, x, rfl, hcell0⟩ := hb i hlt
      have hcell := cell_ext hcell0 X
      have hd : decide ((i : Int) < n) = true := by rw [decide_eq_true_iff]; omega
      have hi1 : (0 : Int) ≤ i := by omega
      have hi2 : (i : Int) < n := by omega
      have hw1 : IntKind.i64.wrap ((i : Int) + 1) = i + 1 := IntWalk.i64_in _ (by omega)
      clear hb hcell0
      go_wp2
      go_roundw
      case rel => exact ⟨i + 1, _, rfl, valI (by push_cast; omega), by omega, X⟩
      case measure => simp [intOf]; omega
    · have hd : decide ((i : Int) < n) = false := by rw [decide_eq_false_iff_not]; omega
      have hd' : ¬ i < n := hlt
      have HB := Lib.hid hb
      clear hb
      go_wp2
      go_ret
      refine ⟨wr.heap.size, rfl, X.size, ⟨0, h, Nat.zero_le _, by omega, by show Bx _ wr.heap.size [.slice a n cap, .int .i64 0, .int .i64 h]; repeat (first | with_reducible assumption | with_reducible exact Bx.new _ _ _ _ rfl | ((with_reducible refine Bx.new _ _ _ _ ?_); simp; done) | with_reducible refine Bx.pAlloc ?_ _ | with_reducible refine Bx.pDrew ?_ | with_reducible refine Bx.pDrewN ?_ _ | with_reducible apply Bx.set10 | with_reducible apply Bx.set20 | with_reducible apply Bx.set21 | with_reducible apply Bx.set30 | with_reducible apply Bx.set31 | with_reducible apply Bx.set32 | with_reducible apply Bx.set40 | with_reducible apply Bx.set41 | with_reducible apply Bx.set42 | with_reducible apply Bx.set43 | ((with_reducible refine Bx.set_other ?_ ?_ _); rotate_left; (simp <;> omega)))⟩, ?_, X.trans (by repeat (first | with_reducible exact Ext.refl _ | with_reducible assumption | with_reducible refine Ext.pAlloc ?_ _ | ((with_reducible refine Ext.pSet ?_ ?_ _); rotate_left; (simp <;> omega)) | with_reducible refine Ext.pDrew ?_ | with_reducible refine Ext.pDrewN ?_ _))⟩
      intro j hj
      obtain ⟨b, off, x, e, hc⟩ := HB.out j hj
      have hlt : b < w.heap.size := World.block_lt_of_cell? _ _ hc
      have := X.size
      exact ⟨b, off, x, e, by omega, cell_ext hc (X.trans (by repeat (first | with_reducible exact Ext.refl _ | with_reducible assumption | with_reducible refine Ext.pAlloc ?_ _ | ((with_reducible refine Ext.pSet ?_ ?_ _); rotate_left; (simp <;> omega)) | with_reducible refine Ext.pDrew ?_ | with_reducible refine Ext.pDrewN ?_ _)))⟩

theorem DC.ext {w w' : World} {cb n cap : Nat} {a : Option Addr} (h : DC w cb a n cap) (X : Ext w w') : DC w' cb a n cap := by
  obtain ⟨k, q, h1, h2, hB⟩ := h
  exact ⟨k, q, h1, h2, hB.ext X⟩
theorem DC.lt {w : World} {cb n cap : Nat} {a : Option Addr} (h : DC w cb a n cap) : cb < w.heap.size := by
  obtain ⟨k, q, h1, h2, hB⟩ := h
  exact hB.lt
theorem CodeAt.ext {w w' : World} {cb n : Nat} {a : Option Addr} (h : CodeAt w cb a n) (X : Ext w w') : CodeAt w' cb a n := fun j hj => by
  obtain ⟨b, off, x, e, hne, hc⟩ := h j hj
  exact ⟨b, off, x, e, hne, cell_ext hc X⟩
/-- What is written beside lies in blocks that were not there. -/
theorem Chg.new {l h lo hi : Nat} {a b c : World} (p : Chg l h a b) (k : Chg lo hi b c) (hl : a.heap.size ≤ lo) : Chg l h a c :=
  ⟨k.os.trans p.os, k.tape.trans p.tape, k.output.trans p.output, Nat.le_trans p.size k.size,
    fun i hi hn => (k.block i (Nat.lt_of_lt_of_le hi p.size) (by omega)).trans (p.block i hi hn)⟩
set_option maxHeartbeats 800000 in
theorem l1Odd_c (cb n cap : Nat) (a : Option Addr) (w : World) (hD : DC w cb a n cap) (hb : CodeAt w cb a n) :
    Calls Try.prog 103 #[.pointer (some ⟨cb, 0, none⟩)] w fun e w' => ∃ x : Int, -9223372036854775808 ≤ x ∧ x ≤ 9223372036854775807 ∧ e = .returned (.int .i64 x) ∧ DC w' cb a n cap ∧ Chg cb (cb + 1) w w' := by
  go_enter Try.func103, Try.ntmps103
  have hlt := hD.lt
  go_wp2_with fail
  refine (l1Below_c cb n cap a 10 _ (by omega) (hD.ext (Ext.alloc _ _)) (hb.ext (Ext.alloc _ _))).mono ?_
  rintro e w1 ⟨x, hx0, hx1, rfl, hD1, hC1⟩
  obtain ⟨j, rfl⟩ : ∃ j : Nat, x = j := ⟨x.toNat, by omega⟩
  obtain ⟨y, hy0, hy1, hy⟩ : ∃ y : Int, -9223372036854775808 ≤ y ∧ y ≤ 9223372036854775807 ∧ w1.cell? ⟨w.heap.size, j, none⟩ = some (.int .i64 y) := by
    have hB := (Bx.new w _ _ w.heap.size rfl).chg hC1 (Or.inr hlt)
    have : j = 0 ∨ j = 1 ∨ j = 2 ∨ j = 3 ∨ j = 4 ∨ j = 5 ∨ j = 6 ∨ j = 7 ∨ j = 8 ∨ j = 9 := by omega
    rcases this with rfl | rfl | rfl | rfl | rfl | rfl | rfl | rfl | rfl | rfl <;> exact ⟨_, (by decide), (by decide), hB.cell _ _ rfl⟩
  go_wp2
  go_ret
  exact ⟨y, hy0, hy1, rfl, hD1, ((Ext.alloc _ _).chg _ _).trans hC1⟩

end Go.Proofs.Ytbapomhoipdanaa
