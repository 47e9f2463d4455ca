/- The draws: numbers. -/
import Derived.Test.YtbapomhoipdanaaDr2
set_option linter.unusedVariables false
set_option linter.unusedSimpArgs false
namespace Go.Proofs.Ytbapomhoipdanaa
open Go.RowKit Go.Sl

set_option maxHeartbeats 800000 in
theorem l1Num_c (cb n cap : Nat) (a : Option Addr) (m : Int) (w : World) (hm0 : 0 ≤ m) (hm1 : m ≤ 1000000000000) (hD : DC w cb a n cap) (hb : CodeAt w cb a n) :
    Calls Try.prog 118 #[.pointer (some ⟨cb, 0, none⟩), .int .i64 m] w fun e w' => ∃ x : Int, -9223372036854775808 ≤ x ∧ x ≤ 9223372036854775807 ∧ e = .returned (.int .i64 x) ∧ DC w' cb a n cap ∧ Chg cb (cb + 1) w w' := by
  have hw1 : IntKind.i64.wrap (m + 1) = m + 1 := IntWalk.i64_in _ (by omega)
  have hw2 : IntKind.i64.wrap (min m 4 + 1) = min m 4 + 1 := IntWalk.i64_in _ (by omega)
  have hlt := hD.lt
  go_enter Try.func118, Try.ntmps118
  go_wp2_with fail
  refine (l1Once_c cb n cap a 10 _ (by omega) hD hb).mono ?_
  rintro e w1 ⟨q, rfl, hD1, hC1⟩
  have hb1 := hb.chg hC1
  have hl1 := hC1.size
  cases q
  · go_wp2_with fail
    refine (l1Once_c cb n cap a 2 _ (by omega) hD1 hb1).mono ?_
    rintro e w2 ⟨q, rfl, hD2, hC2⟩
    have hb2 := hb1.chg hC2
    cases q
    · go_wp2_with fail
      refine (l1Below_c cb n cap a (m + 1) _ (by omega) hD2 hb2).mono ?_
      rintro e w3 ⟨x, hx0, hx1, rfl, hD3, hC3⟩
      go_wp2
      go_ret
      exact ⟨x, by omega, by omega, rfl, hD3, (hC1.trans hC2).trans hC3⟩
    · go_wp2_with fail
      refine (l1Min_c m 4 _).mono ?_
      rintro e w3 ⟨rfl, rfl⟩
      go_wp2_with fail
      refine (l1Below_c cb n cap a (min m 4 + 1) _ (by omega) hD2 hb2).mono ?_
      rintro e w3 ⟨x, hx0, hx1, rfl, hD3, hC3⟩
      go_wp2
      go_ret
      exact ⟨x, by omega, by omega, rfl, hD3, (hC1.trans hC2).trans hC3⟩
  · go_wp2_with fail
    refine (l1Odd_c cb n cap a _ hD1 hb1).mono ?_
    rintro e w2 ⟨o, ho0, ho1, rfl, hD2, hC2⟩
    have hb2 := hb1.chg hC2
    have hl2 := hC2.size
    go_wp2_with fail
    refine (l1Below_c cb n cap a 4 _ (by omega) (hD2.ext (Ext.alloc _ _)) (hb2.ext (Ext.alloc _ _))).mono ?_
    rintro e w3 ⟨x, hx0, hx1, rfl, hD3, hC3⟩
    obtain ⟨j, rfl⟩ : ∃ j : Nat, x = j := ⟨x.toNat, by omega⟩
    obtain ⟨y, hy0, hy1, hy⟩ : ∃ y : Int, -9223372036854775808 ≤ y ∧ y ≤ 9223372036854775807 ∧ w3.cell? ⟨w2.heap.size, j, none⟩ = some (.int .i64 y) := by
      have hB := (Bx.new w2 _ _ w2.heap.size rfl).chg hC3 (Or.inr (by omega))
      have : j = 0 ∨ j = 1 ∨ j = 2 ∨ j = 3 := by omega
      rcases this with rfl | rfl | rfl | rfl
      · exact ⟨-1, by omega, by omega, hB.cell _ _ rfl⟩
      · exact ⟨m, by omega, by omega, hB.cell _ _ rfl⟩
      · exact ⟨m + 1, by omega, by omega, hB.cell _ _ rfl⟩
      · exact ⟨o, by omega, by omega, hB.cell _ _ rfl⟩
    go_wp2
    go_ret
    exact ⟨y, hy0, hy1, rfl, hD3, ((hC1.trans hC2).trans ((Ext.alloc _ _).chg _ _)).trans hC3⟩

end Go.Proofs.Ytbapomhoipdanaa
