/- The draws: a cursor over the code, one byte. -/
import Derived.Test.YtbapomhoipdanaaDice
import Derived.Test.YtbapomhoipdanaaApd
import Derived.Test.YtbapomhoipdanaaTill
set_option linter.unusedVariables false
set_option linter.unusedSimpArgs false
namespace Go.Proofs.Ytbapomhoipdanaa
open Go.RowKit Go.Sl

theorem and255 (n : Int) : bits .and .i64 n 255 = n % 256 := by
  have h255 : (BitVec.ofInt 64 255).toNat = 2 ^ 8 - 1 := by decide
  have key : (BitVec.ofInt 64 n &&& BitVec.ofInt 64 255).toNat = (n % ((2 ^ 64 : Nat) : Int)).toNat % 2 ^ 8 := by
    rw [BitVec.toNat_and, BitVec.toNat_ofInt, h255, Nat.and_two_pow_sub_one_eq_mod]
  show IntKind.i64.wrap ((BitVec.ofInt 64 n &&& BitVec.ofInt 64 255).toNat : Nat) = n % 256
  rw [key, IntKind.wrap_i64]
  omega
theorem and255_lo (n : Int) : 0 ≤ bits .and .i64 n 255 := by rw [and255]; omega
theorem and255_hi (n : Int) : bits .and .i64 n 255 < 256 := by rw [and255]; omega
theorem Chg.pS {cb j : Nat} {w w1 : World} (h : Chg cb (cb + 1) w w1) (v : Value) : Chg cb (cb + 1) w (w1.setCell ⟨cb, j, none⟩ v) := h.trans (Chg.setCell _ _ _ (Nat.le_refl _) (Nat.lt_succ_self _))
theorem Chg.pD {lo hi : Nat} {w w1 : World} (h : Chg lo hi w w1) (n : Nat) : Chg lo hi w (w1.drewN n) := h.trans ((Ext.drewN _ _).chg _ _)
theorem Chg.pD1 {lo hi : Nat} {w w1 : World} (h : Chg lo hi w w1) : Chg lo hi w w1.drew := h.trans ((Ext.drew _).chg _ _)
/-- The cursor of the draws: cells. -/
def DC (w : World) (cb : Nat) (a : Option Addr) (n cap : Nat) : Prop := ∃ (k : Nat) (h : Int), k ≤ n ∧ n ≤ 9223372036854775806 ∧ Bx w cb [.slice a n cap, .int .i64 (k : Int), .int .i64 h]
/-- The code reads as bytes, and lies apart from the cursor. -/
def CodeAt (w : World) (cb : Nat) (a : Option Addr) (n : Nat) : Prop := ∀ j, j < n → ∃ (b off : Nat) (x : Int), a = some ⟨b, off, none⟩ ∧ b ≠ cb ∧ w.cell? ⟨b, off + j, none⟩ = some (.int .u8 x)
set_option maxHeartbeats 800000 in
theorem l1Byte_c (cb n cap : Nat) (a : Option Addr) (w : World) (hD : DC w cb a n cap) (hb : CodeAt w cb a n) :
    Calls Try.prog 116 #[.pointer (some ⟨cb, 0, none⟩)] w fun e w' => ∃ x : Int, 0 ≤ x ∧ x < 256 ∧ e = .returned (.int .i64 x) ∧ DC w' cb a n cap ∧ Chg cb (cb + 1) w w' := by
  obtain ⟨k, h, hk, hn, hB⟩ := hD
  have c0 := hB.cell 0 _ rfl
  have c1 := hB.cell 1 _ rfl
  have c2 := hB.cell 2 _ rfl
  have f1 := hB.fr
  by_cases hlt : k < n
  · obtain ⟨b, off, x, rfl, hne, hcell⟩ := hb k hlt
    have hi1 : (0 : Int) ≤ k := by omega
    have hi2 : (k : Int) < n := by omega
    have hd : decide ((k : Int) < n) = true := by rw [decide_eq_true_iff]; omega
    have hw1 : IntKind.i64.wrap ((k : Int) + 1) = k + 1 := IntWalk.i64_in _ (by omega)
    have hne' : cb ≠ b := fun e => hne e.symm
    clear hb
    go_enter Try.func116, Try.ntmps116
    go_wp2
    go_quiet (fail)
    go_wp2
    go_quiet (fail)
    go_wp2
    go_quiet (fail)
    go_wp2
    go_ret
    exact ⟨_, and255_lo _, and255_hi _, rfl, ⟨k + 1, _, by omega, hn, by (rw [show ((k + 1 : Nat) : Int) = (k : Int) + 1 by omega]; repeat (first | with_reducible assumption | with_reducible exact Bx.new _ _ _ _ rfl | ((with_reducible refine Bx.new _ _ _ _ ?_); simp; done) | with_reducible refine Bx.pAlloc ?_ _ | with_reducible refine Bx.pDrew ?_ | with_reducible refine Bx.pDrewN ?_ _ | with_reducible apply Bx.set10 | with_reducible apply Bx.set20 | with_reducible apply Bx.set21 | with_reducible apply Bx.set30 | with_reducible apply Bx.set31 | with_reducible apply Bx.set32 | with_reducible apply Bx.set40 | with_reducible apply Bx.set41 | with_reducible apply Bx.set42 | with_reducible apply Bx.set43 | ((with_reducible refine Bx.set_other ?_ ?_ _); rotate_left; (simp <;> omega))))⟩, by repeat (first | with_reducible exact Chg.refl _ _ _ | with_reducible refine Chg.pD ?_ _ | with_reducible refine Chg.pS ?_ _ | with_reducible refine Chg.pD1 ?_)⟩
  · have hd : decide ((k : Int) < n) = false := by rw [decide_eq_false_iff_not]; omega
    have hd' : ¬ k < n := hlt
    clear hb
    go_enter Try.func116, Try.ntmps116
    go_wp2
    go_quiet (fail)
    go_wp2
    go_quiet (fail)
    go_wp2
    go_ret
    exact ⟨_, and255_lo _, and255_hi _, rfl, ⟨k, _, hk, hn, by repeat (first | with_reducible assumption | with_reducible exact Bx.new _ _ _ _ rfl | ((with_reducible refine Bx.new _ _ _ _ ?_); simp; done) | with_reducible refine Bx.pAlloc ?_ _ | with_reducible refine Bx.pDrew ?_ | with_reducible refine Bx.pDrewN ?_ _ | with_reducible apply Bx.set10 | with_reducible apply Bx.set20 | with_reducible apply Bx.set21 | with_reducible apply Bx.set30 | with_reducible apply Bx.set31 | with_reducible apply Bx.set32 | with_reducible apply Bx.set40 | with_reducible apply Bx.set41 | with_reducible apply Bx.set42 | with_reducible apply Bx.set43 | ((with_reducible refine Bx.set_other ?_ ?_ _); rotate_left; (simp <;> omega)))⟩, by repeat (first | with_reducible exact Chg.refl _ _ _ | with_reducible refine Chg.pD ?_ _ | with_reducible refine Chg.pS ?_ _ | with_reducible refine Chg.pD1 ?_)⟩

theorem CodeAt.chg {w w' : World} {cb n : Nat} {a : Option Addr} (h : CodeAt w cb a n) (hC : Chg cb (cb + 1) w w') : CodeAt w' cb a n := fun j hj => by
  obtain ⟨b, off, x, e, hne, hc⟩ := h j hj
  exact ⟨b, off, x, e, hne, cell_chg hc hC (by omega)⟩
theorem tmod_lo (x n : Int) (h : 0 ≤ x) (hn : 0 < n) : 0 ≤ x.tmod n := Int.tmod_nonneg _ h
theorem tmod_hi (x n : Int) (h : 0 ≤ x) (hn : 0 < n) : x.tmod n < n := Int.tmod_lt_of_pos _ hn
set_option maxHeartbeats 800000 in
theorem l1Below_c (cb n cap : Nat) (a : Option Addr) (m : Int) (w : World) (hm : 0 < m) (hD : DC w cb a n cap) (hb : CodeAt w cb a n) :
    Calls Try.prog 102 #[.pointer (some ⟨cb, 0, none⟩), .int .i64 m] w fun e w' => ∃ x : Int, 0 ≤ x ∧ x < m ∧ e = .returned (.int .i64 x) ∧ DC w' cb a n cap ∧ Chg cb (cb + 1) w w' := by
  have hd1 : decide (m ≤ 0) = false := by rw [decide_eq_false_iff_not]; omega
  have hd1' : ¬ m ≤ 0 := by omega
  have hm0 : ¬ m = 0 := by omega
  by_cases h2 : m ≤ 256
  · have hd2 : decide (m ≤ 256) = true := by rw [decide_eq_true_iff]; omega
    go_enter Try.func102, Try.ntmps102
    go_wp2_with fail
    refine (l1Byte_c cb n cap a _ hD hb).mono ?_
    rintro e w1 ⟨x, hx0, hx1, rfl, hD1, hC1⟩
    go_wp2
    go_ret
    exact ⟨_, Int.emod_nonneg _ (by omega), Int.emod_lt_of_pos _ hm, rfl, hD1, hC1⟩
  · have hd2 : decide (m ≤ 256) = false := by rw [decide_eq_false_iff_not]; omega
    go_enter Try.func102, Try.ntmps102
    go_wp2_with fail
    refine (l1Byte_c cb n cap a _ hD hb).mono ?_
    rintro e w1 ⟨x, hx0, hx1, rfl, hD1, hC1⟩
    have hb1 := hb.chg hC1
    go_wp2_with fail
    refine (l1Byte_c cb n cap a _ hD1 hb1).mono ?_
    rintro e w2 ⟨y, hy0, hy1, rfl, hD2, hC2⟩
    have hb2 := hb1.chg hC2
    go_wp2_with fail
    refine (l1Byte_c cb n cap a _ hD2 hb2).mono ?_
    rintro e w3 ⟨z, hz0, hz1, rfl, hD3, hC3⟩
    have hb3 := hb2.chg hC3
    go_wp2_with fail
    refine (l1Byte_c cb n cap a _ hD3 hb3).mono ?_
    rintro e w4 ⟨u, hu0, hu1, rfl, hD4, hC4⟩
    go_wp2
    go_ret
    exact ⟨_, Int.emod_nonneg _ (by omega), Int.emod_lt_of_pos _ hm, rfl, hD4, ((hC1.trans hC2).trans hC3).trans hC4⟩

theorem l1Once_c (cb n cap : Nat) (a : Option Addr) (m : Int) (w : World) (hm : 0 < m) (hD : DC w cb a n cap) (hb : CodeAt w cb a n) :
    Calls Try.prog 100 #[.pointer (some ⟨cb, 0, none⟩), .int .i64 m] w fun e w' => ∃ q : Bool, e = .returned (.bool q) ∧ DC w' cb a n cap ∧ Chg cb (cb + 1) w w' := by
  go_enter Try.func100, Try.ntmps100
  go_wp2_with fail
  refine (l1Below_c cb n cap a m _ hm hD hb).mono ?_
  rintro e w1 ⟨x, hx0, hx1, rfl, hD1, hC1⟩
  go_wp2
  go_ret
  exact ⟨_, rfl, hD1, hC1⟩

theorem l1From_c (cb n cap : Nat) (a : Option Addr) (lo hi : Int) (w : World) (h1 : lo ≤ hi) (h2 : -1000000000000 ≤ lo) (h3 : hi ≤ 1000000000000) (hD : DC w cb a n cap) (hb : CodeAt w cb a n) :
    Calls Try.prog 115 #[.pointer (some ⟨cb, 0, none⟩), .int .i64 lo, .int .i64 hi] w fun e w' => ∃ x : Int, lo ≤ x ∧ x ≤ hi ∧ e = .returned (.int .i64 x) ∧ DC w' cb a n cap ∧ Chg cb (cb + 1) w w' := by
  have hw1 : IntKind.i64.wrap (hi - lo) = hi - lo := IntWalk.i64_in _ (by omega)
  have hw2 : IntKind.i64.wrap (hi - lo + 1) = hi - lo + 1 := IntWalk.i64_in _ (by omega)
  go_enter Try.func115, Try.ntmps115
  go_wp2_with fail
  refine (l1Below_c cb n cap a (hi - lo + 1) _ (by omega) hD hb).mono ?_
  rintro e w1 ⟨x, hx0, hx1, rfl, hD1, hC1⟩
  have hw3 : IntKind.i64.wrap (lo + x) = lo + x := IntWalk.i64_in _ (by omega)
  go_wp2
  go_ret
  exact ⟨lo + x, by omega, by omega, rfl, hD1, hC1⟩

theorem l1Min_c (x y : Int) (w : World) : Calls Try.prog 119 #[.int .i64 x, .int .i64 y] w fun e w' => e = .returned (.int .i64 (min x y)) ∧ w' = w := by
  by_cases h : x < y
  · have hd : decide (x < y) = true := by rw [decide_eq_true_iff]; omega
    have Hm := Lib.hid (show min x y = x by omega)
    go_enter Try.func119, Try.ntmps119
    go_wp2
    go_ret
    exact ⟨by rw [Hm.out]; rfl, rfl⟩
  · have hd : decide (x < y) = false := by rw [decide_eq_false_iff_not]; omega
    have Hm := Lib.hid (show min x y = y by omega)
    go_enter Try.func119, Try.ntmps119
    go_wp2
    go_ret
    exact ⟨by rw [Hm.out]; rfl, rfl⟩

end Go.Proofs.Ytbapomhoipdanaa
