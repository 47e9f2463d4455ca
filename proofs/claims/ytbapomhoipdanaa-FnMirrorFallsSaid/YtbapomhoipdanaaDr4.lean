/- The draws: a row. -/
import Derived.Test.YtbapomhoipdanaaDr3
set_option linter.unusedVariables false
set_option linter.unusedSimpArgs false
namespace Go.Proofs.Ytbapomhoipdanaa
open Go.RowKit Go.Sl

theorem DC.far {w w' : World} {cb n cap lo hi : Nat} {a : Option Addr} (h : DC w cb a n cap) (X : Chg lo hi w w') (hd : cb < lo ∨ hi ≤ cb) : DC w' cb a n cap := by
  obtain ⟨k, q, h1, h2, hB⟩ := h
  exact ⟨k, q, h1, h2, hB.chg X hd⟩
theorem int_ownD (lo hi : Nat) (w : World) (x : Int) : intC.own lo hi w [.int .i64 x] x := ⟨[], ⟨rfl, rfl⟩, List.nodup_nil, by simp⟩
set_option maxHeartbeats 800000 in
theorem l1DrawRow_c (cb n cap : Nat) (a : Option Addr) (w : World) (hD : DC w cb a n cap) (hb : CodeAt w cb a n) :
    Calls Try.prog 111 #[.pointer (some ⟨cb, 0, none⟩)] w fun e w' => ∃ (v' : Value) (row : List Int), e = .returned v' ∧ row.length ≤ 7 ∧ Hid (∀ x ∈ row, 0 ≤ x ∧ x < 50) ∧ rowC.own w.heap.size w'.heap.size w' [v'] row ∧ DC w' cb a n cap ∧ Chg cb (cb + 1) w w' := by
  have hlt := hD.lt
  go_enter Try.func111, Try.ntmps111
  go_wp2_with fail
  refine (l1Below_c cb n cap a 8 _ (by omega) (hD.ext (Ext.alloc _ _)) (hb.ext (Ext.alloc _ _))).mono ?_
  rintro e w1 ⟨x, hx0, hx1, rfl, hD1, hC1⟩
  obtain ⟨m, rfl⟩ : ∃ m : Nat, x = m := ⟨x.toNat, by omega⟩
  have C1 : Chg cb (cb + 1) w w1 := ((Ext.alloc _ _).chg _ _).trans hC1
  have O1 := Lib.hid (Cd.own.wide ((row_empty w.heap.size w _ (Nat.le_refl _)).chg hC1 (Or.inr hlt)) (Nat.le_refl _) hC1.size)
  clear hC1
  go_wp2
  go_loopw [3, 4] (fun v3 v4 wr => ∃ (row : List Int) (ra : Option Addr) (rc k : Nat), v3 = .slice ra row.length rc ∧ v4 = .int .i64 (k : Int) ∧ row.length + k ≤ 7 ∧ Hid (∀ x ∈ row, 0 ≤ x ∧ x < 50) ∧ rowC.own w.heap.size wr.heap.size wr [.slice ra row.length rc] row ∧ DC wr cb a n cap ∧ Chg cb (cb + 1) w wr) (fun _ v4 _ => (intOf v4).toNat)
  case atStart => exact ⟨[], _, 0, m, rfl, rfl, by simp; omega, by simp [Hid], O1.out, hD1, C1⟩
  case round =>
    clear O1 C1 hD1
    obtain ⟨row, ra, rc, k, rfl, rfl, hk, HR, O2, hD2, C2⟩ := hrel
    have hb2 := hb.chg C2
    by_cases hk0 : 0 < k
    · have hd : decide ((0 : Int) < k) = true := by rw [decide_eq_true_iff]; omega
      have hw : IntKind.i64.wrap ((k : Int) - 1) = ((k - 1 : Nat) : Int) := by rw [show (k : Int) - 1 = ((k - 1 : Nat) : Int) by omega]; exact IntWalk.i64_in _ (by omega)
      go_wp2_with fail
      refine (l1Below_c cb n cap a 50 _ (by omega) hD2 hb2).mono ?_
      rintro e w3 ⟨x, hx0, hx1, rfl, hD3, hC3⟩
      have O3 := O2.chg hC3 (Or.inr hlt)
      have hs3 := hC3.size
      have hs2 := C2.size
      go_wp2_with (at_builtin; refine wpList_snocC (R := intC) (y := x) (lo := w.heap.size) (hi := wr.heap.size) (lo' := w3.heap.size) (hi' := w3.heap.size) rfl _ _ _ rfl 2 _ 8 Try.underlying44 Try.infoI rfl (Cd.own.pAlloc O3 _) rfl (int_ownD _ _ _ _) hs3 (by omega) (by simp; omega) _ _ rfl (CellsAt.lit _ _ _) (by omega) ?_)
      intro v4 w4 a4 c4 hv4 hO4 hC4
      subst hv4
      have C4 : Chg cb (cb + 1) w w4 := Chg.new ((C2.trans hC3).trans ((Ext.alloc _ _).chg _ _)) hC4 (Nat.le_refl _)
      have D4 := (hD3.ext (Ext.alloc _ _)).far hC4 (Or.inl hlt)
      clear hC4 hD3 hC3 C2 hD2 O2
      go_wp2
      go_roundw
      case rel => exact ⟨row ++ [x], a4, c4, k - 1, by simp, rfl, by simp; omega, (by intro y hy; rcases List.mem_append.1 hy with h | h; exact HR.out y h; rw [List.mem_singleton.1 h]; exact ⟨hx0, hx1⟩), (by rw [List.length_append]; exact hO4), D4, C4⟩
      case measure => simp [intOf]; omega
    · have hd : decide ((0 : Int) < k) = false := by rw [decide_eq_false_iff_not]; omega
      have hd' : k = 0 := by omega
      subst hd'
      go_wp2
      go_ret
      exact ⟨_, row, rfl, by omega, HR, O2, hD2, C2⟩

end Go.Proofs.Ytbapomhoipdanaa
