/- The draws of fates. -/
import Derived.Test.YtbapomhoipdanaaDr6
set_option linter.unusedVariables false
set_option linter.unusedSimpArgs false
namespace Go.Proofs.Ytbapomhoipdanaa
open Go.RowKit Go.Sl

set_option maxHeartbeats 4000000 in
set_option maxRecDepth 20000 in
theorem l3DrawFates_c (cb n cap : Nat) (a : Option Addr) (w : World) (hD : DC w cb a n cap) (hb : CodeAt w cb a n) :
    Calls Try.prog 75 #[.pointer (some ⟨cb, 0, none⟩)] w fun e w' => ∃ (v' : Value) (row : List Int), e = .returned v' ∧ row.length ≤ 8 ∧ rowC.own w.heap.size w'.heap.size w' [v'] row ∧ DC w' cb a n cap ∧ Chg cb (cb + 1) w w' := by
  have hlt := hD.lt
  go_enter Try.func75, Try.ntmps75
  go_wp2_with fail
  refine (l1Below_c cb n cap a 9 _ (by omega) (hD.ext (Ext.alloc _ _)) (hb.ext (Ext.alloc _ _))).mono ?_
  rintro e w1 ⟨x, hx0, hx1, rfl, hD1, hC1⟩
  obtain ⟨m, rfl⟩ : ∃ m : Nat, x = m := ⟨x.toNat, by omega⟩
  have C1 : Chg cb (cb + 1) w w1 := ((Ext.alloc _ _).chg _ _).trans hC1
  have O1 := Lib.hid (Cd.own.wide ((row_empty w.heap.size w _ (Nat.le_refl _)).chg hC1 (Or.inr hlt)) (Nat.le_refl _) hC1.size)
  clear hC1
  go_wp2
  go_loopw [3, 4] (fun v3 v4 wr => ∃ (row : List Int) (ra : Option Addr) (rc k : Nat), v3 = .slice ra row.length rc ∧ v4 = .int .i64 (k : Int) ∧ row.length + k ≤ 8 ∧ rowC.own w.heap.size wr.heap.size wr [.slice ra row.length rc] row ∧ DC wr cb a n cap ∧ Chg cb (cb + 1) w wr) (fun _ v4 _ => (intOf v4).toNat)
  case atStart => exact ⟨[], _, 0, m, rfl, rfl, by simp; omega, O1.out, hD1, C1⟩
  case round =>
    clear O1 C1 hD1
    obtain ⟨row, ra, rc, k, rfl, rfl, hk, O2, hD2, C2⟩ := hrel
    have hb2 := hb.chg C2
    by_cases hk0 : 0 < k
    · have hd : decide ((0 : Int) < k) = true := by rw [decide_eq_true_iff]; omega
      have hw : IntKind.i64.wrap ((k : Int) - 1) = ((k - 1 : Nat) : Int) := by rw [show (k : Int) - 1 = ((k - 1 : Nat) : Int) by omega]; exact IntWalk.i64_in _ (by omega)
      go_wp2_with fail
      refine (l1Below_c cb n cap a 3 _ (by omega) hD2 hb2).mono ?_
      rintro e w3 ⟨x, hx0, hx1, rfl, hD3, hC3⟩
      have O3 := O2.chg hC3 (Or.inr hlt)
      have hs3 := hC3.size
      have hs2 := C2.size
      go_wp2_with (at_builtin; refine wpList_snocC (R := intC) (y := x) (lo := w.heap.size) (hi := wr.heap.size) (lo' := w3.heap.size) (hi' := w3.heap.size) rfl _ _ _ rfl 2 _ 8 Try.underlying44 Try.infoI rfl (Cd.own.pAlloc O3 _) rfl (int_ownD _ _ _ _) hs3 (by omega) (by simp; omega) _ _ rfl (CellsAt.lit _ _ _) (by omega) ?_)
      intro v4 w4 a4 c4 hv4 hO4 hC4
      subst hv4
      have C4 : Chg cb (cb + 1) w w4 := Chg.new ((C2.trans hC3).trans ((Ext.alloc _ _).chg _ _)) hC4 (Nat.le_refl _)
      have D4 := (hD3.ext (Ext.alloc _ _)).far hC4 (Or.inl hlt)
      clear hC4 hD3 hC3 C2 hD2 O2
      go_wp2
      go_roundw
      case rel => exact ⟨row ++ [x], a4, c4, k - 1, by simp, rfl, by simp; omega, (by rw [List.length_append]; exact hO4), D4, C4⟩
      case measure => simp [intOf]; omega
    · have hd : decide ((0 : Int) < k) = false := by rw [decide_eq_false_iff_not]; omega
      have hl8 : row.length ≤ 8 := by omega
      clear hk
      go_wp2_with fail
      refine (l1Once_c cb n cap a 8 _ (by omega) hD2 hb2).mono ?_
      rintro e w3 ⟨q, rfl, hD3, hC3⟩
      have O3 := Lib.hid (Cd.own.wide (O2.chg hC3 (Or.inr hlt)) (Nat.le_refl _) hC3.size)
      have C3 := C2.trans hC3
      clear hC3 hD2 O2 C2 hb2
      cases q
      · go_wp2
        go_ret
        exact ⟨_, row, rfl, hl8, O3.out, hD3, C3⟩
      · by_cases hr : 0 < row.length
        · have hdr : decide ((0 : Int) < (row.length : Int)) = true := by rw [decide_eq_true_iff]; omega
          go_wp2_with fail
          refine (l1Odd_c cb n cap a _ hD3 (hb.chg C3)).mono ?_
          rintro e w4 ⟨y, hy0, hy1, rfl, hD4, hC4⟩
          have O4 := Cd.own.wide (O3.out.chg hC4 (Or.inr hlt)) (Nat.le_refl _) hC4.size
          have C4 := C3.trans hC4
          clear hC4 hD3 O3 C3
          obtain ⟨a9, c9, e9, hl1, hl2, hI, hbl⟩ := row_take O4
          cases e9
          obtain ⟨rb, ro, rfl⟩ := ISl.some hI hr
          obtain ⟨⟨u9, hu9, -⟩, hf9, hst9⟩ := ISl.store hI hr
          have hrb := hbl rb (by simp [ablk])
          rw [Nat.add_zero] at hu9 hf9 hst9
          have hi1 : (0 : Int) < (row.length : Int) := by omega
          have hcw : cb < w.heap.size := hlt
          have HO : Hid (rowC.own w.heap.size (w4.setCell ⟨rb, ro, none⟩ (.int .i64 y)).heap.size (w4.setCell ⟨rb, ro, none⟩ (.int .i64 y)) [.slice (some ⟨rb, ro, none⟩) row.length rc] (row.set 0 y)) := Lib.hid (row_own.2 ⟨_, _, by rw [List.length_set], by rw [List.length_set]; exact hl1, hl2, (hst9 y).1, fun b hb => by have := hbl b hb; simpa [World.setCell] using this⟩)
          have HC9 := Lib.hid (Chg.new C4 (Chg.setCell w4 ⟨rb, ro, none⟩ (.int .i64 y) (lo := rb) (hi := rb + 1) (Nat.le_refl _) (Nat.lt_succ_self _)) hrb.1)
          have HD9 := Lib.hid (hD4.far (Chg.setCell w4 ⟨rb, ro, none⟩ (.int .i64 y) (lo := rb) (hi := rb + 1) (Nat.le_refl _) (Nat.lt_succ_self _)) (Or.inl (by omega)))
          clear hI hst9 O4 C4 hD4
          go_wp2
          go_ret
          exact ⟨_, row.set 0 y, rfl, by rw [List.length_set]; exact hl8, HO.out, HD9.out, HC9.out⟩
        · have hdr : decide ((0 : Int) < (row.length : Int)) = false := by rw [decide_eq_false_iff_not]; omega
          go_wp2
          go_ret
          exact ⟨_, row, rfl, hl8, O3.out, hD3, C3⟩

end Go.Proofs.Ytbapomhoipdanaa
