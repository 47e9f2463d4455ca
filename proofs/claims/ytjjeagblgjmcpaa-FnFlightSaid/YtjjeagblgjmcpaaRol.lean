/- The dice of the laws: rolled from the code; a number below a bound. -/
import Derived.Test.YtjjeagblgjmcpaaTied
import Derived.Test.YtjjeagblgjmcpaaGen
import Derived.Test.YtjjeagblgjmcpaaApd
import Derived.Test.YtjjeagblgjmcpaaTill
set_option linter.unusedVariables false
set_option linter.unusedSimpArgs false
namespace Go.Sl
open Go.RowKit Go.ChangeShapes Go.WideShapes Go.ChangeAt
/-- A byte, with its range. -/
def byteR : Cd Int where
  n := 1
  V := fun _ cs x => cs = [.int .u8 x] ∧ 0 ≤ x ∧ x < 256
  O := fun _ cs x fp => (cs = [.int .u8 x] ∧ 0 ≤ x ∧ x < 256) ∧ fp = []
  view := fun h => h.1
  len := fun h => by rw [h.1]; rfl
  one := fun h u hu => by rw [h.1] at hu; simp at hu; subst hu; rfl
  vext := fun h _ => h
  frame := fun h _ => h
  lt := fun h b hb => by rw [h.2] at hb; cases hb
theorem Tied.byteR {P : Program} {t : TypeId} (ht : P.underlying t = some (.int .u8)) : Tied P byteR t := by
  intro H enc w base spare held fuel cs x h
  obtain ⟨n, rfl, _, hw⟩ := DataW.trod_int ht h
  refine ⟨n, rfl, ?_⟩
  simp only [Lit.wf, IntKind.min, IntKind.max, IntKind.signed, IntKind.bits, Bool.and_eq_true, decide_eq_true_eq] at hw
  simp at hw
  omega
end Go.Sl
namespace Go.Proofs.Ytjjeagblgjmcpaa
open Go.RowKit Go.Sl
set_option maxRecDepth 100000 in
theorem tiedCodeR : Tied Try.prog (sliceC byteR) 22 := Tied.slice Try.underlying22 rfl (by decide) (Tied.byteR Try.underlying5)
/-- The code, with its bytes' ranges. -/
def CodeR (W : World) (a : Option Addr) (n : Nat) : Prop := ∀ j, j < n → ∃ (b off : Nat) (x : Int), a = some ⟨b, off, none⟩ ∧ 0 ≤ x ∧ x < 256 ∧ W.cell? ⟨b, off + j, none⟩ = some (.int .u8 x)
theorem arg_codeR {W : World} {v : Value} (h : ArgOk Try.prog W 22 v) : ∃ (a : Option Addr) (n cap : Nat), v = .slice a n cap ∧ n ≤ cap ∧ cap ≤ 9223372036854775807 ∧ Hid (CodeR W a n) := by
  obtain ⟨code, hc⟩ := h.slice (R := byteR) Try.underlying22 tiedCodeR
  obtain ⟨a, cap, rfl, h1, h2, hcc⟩ := slice_open1 (R := byteR) rfl hc
  refine ⟨a, _, cap, rfl, h1, h2, fun j hj => ?_⟩
  obtain ⟨b, off, x, u, ha, _, hv, hcell⟩ := hcc j hj
  obtain ⟨hu, h0, h9⟩ : [u] = [Value.int .u8 x] ∧ 0 ≤ x ∧ x < 256 := hv
  cases hu
  exact ⟨b, off, x, ha, h0, h9, hcell⟩
theorem CodeR.ext {W W' : World} {a : Option Addr} {n : Nat} (h : CodeR W a n) (he : Ext W W') : CodeR W' a n := fun j hj => by
  obtain ⟨b, off, x, ha, h0, h9, hc⟩ := h j hj
  exact ⟨b, off, x, ha, h0, h9, cell_ext hc he⟩
/-- A dice of the laws at block db. -/
def RD (w : World) (db : Nat) (a : Option Addr) (n cap : Nat) : Prop := ∃ (k : Nat) (h : Int), k ≤ n ∧ n ≤ 4096 ∧ Bx w db [.slice a n cap, .int .i64 (k : Int), .int .u64 h]
/-- The code reads as bytes, apart from the dice. -/
def CodeD (w : World) (db : Nat) (a : Option Addr) (n : Nat) : Prop := ∀ j, j < n → ∃ (b off : Nat) (x : Int), a = some ⟨b, off, none⟩ ∧ b ≠ db ∧ 0 ≤ x ∧ x < 256 ∧ w.cell? ⟨b, off + j, none⟩ = some (.int .u8 x)
theorem CodeD.chg {w w' : World} {db n : Nat} {a : Option Addr} (h : CodeD w db a n) (hC : Chg db (db + 1) w w') : CodeD w' db a n := fun j hj => by
  obtain ⟨b, off, x, e, hne, h0, h9, hc⟩ := h j hj
  exact ⟨b, off, x, e, hne, h0, h9, cell_chg hc hC (by omega)⟩
theorem RD.ext {w w' : World} {db n cap : Nat} {a : Option Addr} (h : RD w db a n cap) (he : Ext w w') : RD w' db a n cap := by
  obtain ⟨k, x, h1, h2, hB⟩ := h
  exact ⟨k, x, h1, h2, hB.ext he⟩
theorem RD.chg {w w' : World} {db n cap lo hi : Nat} {a : Option Addr} (h : RD w db a n cap) (hc : Chg lo hi w w') (hd : db < lo ∨ hi ≤ db) : RD w' db a n cap := by
  obtain ⟨k, x, h1, h2, hB⟩ := h
  exact ⟨k, x, h1, h2, hB.chg hc hd⟩
theorem CodeD.ext {w w' : World} {db n : Nat} {a : Option Addr} (h : CodeD w db a n) (he : Ext w w') : CodeD w' db a n := fun j hj => by
  obtain ⟨b, off, x, e, hne, h0, h9, hc⟩ := h j hj
  exact ⟨b, off, x, e, hne, h0, h9, cell_ext hc he⟩
theorem CodeD.of {W w : World} {db n : Nat} {a : Option Addr} (h : CodeR W a n) (he : Ext W w) (hd : W.heap.size ≤ db) : CodeD w db a n := fun j hj => by
  obtain ⟨b, off, x, e, h0, h9, hc⟩ := h j hj
  exact ⟨b, off, x, e, by have h1 : b < W.heap.size := World.block_lt_of_cell? _ _ hc; omega, h0, h9, cell_ext hc he⟩
theorem RD.lt {w : World} {db n cap : Nat} {a : Option Addr} (h : RD w db a n cap) : db < w.heap.size := by
  obtain ⟨k, x, h1, h2, hB⟩ := h
  exact hB.lt
theorem HBcode {W : World} {a : Option Addr} {n : Nat} (h : CodeR W a n) : ∀ j, j < n → ∃ (b off : Nat) (x : Int), a = some ⟨b, off, none⟩ ∧ W.cell? ⟨b, off + j, none⟩ = some (.int .u8 x) := fun j hj => by
  obtain ⟨b, off, x, e, _, _, hc⟩ := h j hj
  exact ⟨b, off, x, e, hc⟩
theorem and24 (n : Int) : bits .and .u64 n 16777215 = n % 16777216 := by
  have h255 : (BitVec.ofInt 64 16777215).toNat = 2 ^ 24 - 1 := by decide
  have key : (BitVec.ofInt 64 n &&& BitVec.ofInt 64 16777215).toNat = (n % ((2 ^ 64 : Nat) : Int)).toNat % 2 ^ 24 := by
    rw [BitVec.toNat_and, BitVec.toNat_ofInt, h255, Nat.and_two_pow_sub_one_eq_mod]
  show IntKind.u64.wrap ((BitVec.ofInt 64 n &&& BitVec.ofInt 64 16777215).toNat : Nat) = n % 16777216
  rw [key]
  have hw : ∀ z : Int, IntKind.u64.wrap z = z % 18446744073709551616 := fun z => by simp [IntKind.wrap, IntKind.bits, IntKind.signed]
  rw [hw]
  omega
theorem low24 (n : Int) : wrap64 (bits .and .u64 n 16777215) = n % 16777216 := by rw [and24]; unfold wrap64; omega
theorem mod_of (n x m : Int) (h0 : 0 ≤ x) (h9 : x < 256) (hm : 0 < m) : 0 ≤ (wrap64 (wrap64 (bits .and .u64 n 16777215) + x)).tmod m ∧ (wrap64 (wrap64 (bits .and .u64 n 16777215) + x)).tmod m < m := by
  rw [low24]
  have : wrap64 (n % 16777216 + x) = n % 16777216 + x := by unfold wrap64; omega
  rw [this]
  exact ⟨Int.tmod_nonneg _ (by omega), Int.tmod_lt_of_pos _ hm⟩
theorem mod_of0 (n m : Int) (hm : 0 < m) : 0 ≤ (wrap64 (bits .and .u64 n 16777215)).tmod m ∧ (wrap64 (bits .and .u64 n 16777215)).tmod m < m := by
  rw [low24]
  exact ⟨Int.tmod_nonneg _ (by omega), Int.tmod_lt_of_pos _ hm⟩
theorem Chg.pS_ {cb j : Nat} {w w1 : World} (h : Chg cb (cb + 1) w w1) (v : Value) : Chg cb (cb + 1) w (w1.setCell ⟨cb, j, none⟩ v) := h.trans (Chg.setCell _ _ _ (Nat.le_refl _) (Nat.lt_succ_self _))
theorem Chg.pD_ {lo hi : Nat} {w w1 : World} (h : Chg lo hi w w1) (n : Nat) : Chg lo hi w (w1.drewN n) := h.trans ((Ext.drewN _ _).chg _ _)
theorem Chg.pD1_ {lo hi : Nat} {w w1 : World} (h : Chg lo hi w w1) : Chg lo hi w w1.drew := h.trans ((Ext.drew _).chg _ _)
set_option maxHeartbeats 1600000 in
theorem below_c (db n cap : Nat) (a : Option Addr) (m : Int) (w : World) (hm : 0 < m) (hD : RD w db a n cap) (hb : CodeD w db a n) :
    Calls Try.prog 8 #[.pointer (some ⟨db, 0, none⟩), .int .i64 m] w fun e w' => ∃ x : Int, 0 ≤ x ∧ x < m ∧ e = .returned (.int .i64 x) ∧ RD w' db a n cap ∧ Chg db (db + 1) w w' := by
  obtain ⟨k, h, hk, hn, hB⟩ := hD
  have c0 := hB.cell 0 _ rfl
  have c1 := hB.cell 1 _ rfl
  have c2 := hB.cell 2 _ rfl
  have f1 := hB.fr
  have hm0 : ¬ m = 0 := by omega
  by_cases hlt : k < n
  · obtain ⟨b, off, x, rfl, hne, hx0, hx9, hcell⟩ := hb k hlt
    have hi1 : (0 : Int) ≤ k := by omega
    have hi2 : (k : Int) < n := by omega
    have hd : decide ((k : Int) < n) = true := by rw [decide_eq_true_iff]; omega
    have hw1 : IntKind.i64.wrap ((k : Int) + 1) = k + 1 := IntWalk.i64_in _ (by omega)
    have hwx : IntKind.i64.wrap x = x := IntWalk.i64_in _ (by omega)
    have hne' : db ≠ b := fun e => hne e.symm
    clear hb
    go_enter Try.func8, Try.ntmps8
    go_wp2
    go_quiet (fail)
    go_wp2
    go_quiet (fail)
    go_wp2
    go_ret
    exact ⟨_, (mod_of _ x m hx0 hx9 hm).1, (mod_of _ x m hx0 hx9 hm).2, rfl, ⟨k + 1, _, by omega, hn, by (rw [show ((k + 1 : Nat) : Int) = (k : Int) + 1 by omega]; repeat (first | with_reducible assumption | with_reducible exact Bx.new _ _ _ _ rfl | ((with_reducible refine Bx.new _ _ _ _ ?_); simp; done) | with_reducible refine Bx.pAlloc ?_ _ | with_reducible refine Bx.pDrew ?_ | with_reducible refine Bx.pDrewN ?_ _ | with_reducible apply Bx.set10 | with_reducible apply Bx.set20 | with_reducible apply Bx.set21 | with_reducible apply Bx.set30 | with_reducible apply Bx.set31 | with_reducible apply Bx.set32 | with_reducible apply Bx.set40 | with_reducible apply Bx.set41 | with_reducible apply Bx.set42 | with_reducible apply Bx.set43 | ((with_reducible refine Bx.set_other ?_ ?_ _); rotate_left; (simp <;> omega))))⟩, (by repeat (first | with_reducible exact Chg.refl _ _ _ | with_reducible refine Chg.pS_ ?_ _ | with_reducible refine Chg.pD_ ?_ _ | with_reducible refine Chg.pD1_ ?_))⟩
  · have hd : decide ((k : Int) < n) = false := by rw [decide_eq_false_iff_not]; omega
    have hd' : ¬ k < n := hlt
    clear hb
    go_enter Try.func8, Try.ntmps8
    go_wp2
    go_quiet (fail)
    go_wp2
    go_ret
    exact ⟨_, (mod_of0 _ m hm).1, (mod_of0 _ m hm).2, rfl, ⟨k, _, hk, hn, by repeat (first | with_reducible assumption | with_reducible exact Bx.new _ _ _ _ rfl | ((with_reducible refine Bx.new _ _ _ _ ?_); simp; done) | with_reducible refine Bx.pAlloc ?_ _ | with_reducible refine Bx.pDrew ?_ | with_reducible refine Bx.pDrewN ?_ _ | with_reducible apply Bx.set10 | with_reducible apply Bx.set20 | with_reducible apply Bx.set21 | with_reducible apply Bx.set30 | with_reducible apply Bx.set31 | with_reducible apply Bx.set32 | with_reducible apply Bx.set40 | with_reducible apply Bx.set41 | with_reducible apply Bx.set42 | with_reducible apply Bx.set43 | ((with_reducible refine Bx.set_other ?_ ?_ _); rotate_left; (simp <;> omega)))⟩, (by repeat (first | with_reducible exact Chg.refl _ _ _ | with_reducible refine Chg.pS_ ?_ _ | with_reducible refine Chg.pD_ ?_ _ | with_reducible refine Chg.pD1_ ?_))⟩
set_option maxHeartbeats 1600000 in
theorem roll_c (n cap : Nat) (a : Option Addr) (sd : Int) (w : World) (hn : n ≤ 4096) (hb : CodeR w a n) :
    Calls Try.prog 6 #[.slice a n cap, .int .u64 sd] w fun e w' => ∃ db : Nat, e = .returned (.pointer (some ⟨db, 0, none⟩)) ∧ w.heap.size ≤ db ∧ RD w' db a n cap ∧ CodeD w' db a n ∧ Ext w w' := by
  have HB := Lib.hid hb
  clear hb
  go_enter Try.func6, Try.ntmps6
  go_wp2
  go_loopw [6] (fun v6 wr => ∃ (i : Nat) (h : Int), v6 = .int .i64 (i : Int) ∧ i ≤ n ∧ Hid (Bx wr w.heap.size [.slice a n cap, .int .i64 0, .int .u64 h]) ∧ Hid (Ext w wr)) (fun v6 _ => n - (intOf v6).toNat)
  case atStart => exact ⟨0, _, rfl, Nat.zero_le _, Lib.hid (by repeat (first | with_reducible assumption | with_reducible exact Bx.new _ _ _ _ rfl | ((with_reducible refine Bx.new _ _ _ _ ?_); simp; done) | with_reducible refine Bx.pAlloc ?_ _ | with_reducible refine Bx.pDrew ?_ | with_reducible refine Bx.pDrewN ?_ _ | with_reducible apply Bx.set10 | with_reducible apply Bx.set20 | with_reducible apply Bx.set21 | with_reducible apply Bx.set30 | with_reducible apply Bx.set31 | with_reducible apply Bx.set32 | with_reducible apply Bx.set40 | with_reducible apply Bx.set41 | with_reducible apply Bx.set42 | with_reducible apply Bx.set43 | ((with_reducible refine Bx.set_other ?_ ?_ _); rotate_left; (simp <;> omega)))), Lib.hid (by repeat (first | with_reducible exact Ext.refl _ | with_reducible assumption | with_reducible refine Ext.pAlloc ?_ _ | ((with_reducible refine Ext.pSet ?_ ?_ _); rotate_left; (simp <;> omega)) | with_reducible refine Ext.pDrew ?_ | with_reducible refine Ext.pDrewN ?_ _))⟩
  case round =>
    obtain ⟨i, h, rfl, hi, hB, X⟩ := hrel
    by_cases hlt : i < n
    · obtain ⟨b, off, x, rfl, hx0, hx9, hcell0⟩ := HB.out i hlt
      have hcell := cell_ext hcell0 X.out
      have hbl : b < w.heap.size := World.block_lt_of_cell? _ _ hcell0
      have hne : w.heap.size ≠ b := by omega
      have hd : decide ((i : Int) < n) = true := by rw [decide_eq_true_iff]; omega
      have hi1 : (0 : Int) ≤ i := by omega
      have hi2 : (i : Int) < n := by omega
      have hw1 : IntKind.i64.wrap ((i : Int) + 1) = i + 1 := IntWalk.i64_in _ (by omega)
      have B := hB.out
      have XX := X.out
      have c0 := B.cell 0 _ rfl
      have c1 := B.cell 1 _ rfl
      have c2 := B.cell 2 _ rfl
      have f1 := B.fr
      clear hcell0
      go_wp2
      refine wp_region_T (S := fun ω => ω.cell? ⟨w.heap.size, 2, none⟩ = some (.int .u64 h) ∧ ω.cell? ⟨b, off + i, none⟩ = some (.int .u8 x) ∧ Ext w ω) 15 (by kernel_rfl) ?_ (fun hHeld => ?_) (by decide)
      · (try dsimp only); (refine ⟨?_, ?_, ?_⟩ <;> first | (simp [go_sem]; done) | (simp [*, go_sem]; done) | ((repeat (first | with_reducible assumption | with_reducible exact Bx.new _ _ _ _ rfl | ((with_reducible refine Bx.new _ _ _ _ ?_); simp; done) | with_reducible refine Bx.pAlloc ?_ _ | with_reducible refine Bx.pDrew ?_ | with_reducible refine Bx.pDrewN ?_ _ | with_reducible apply Bx.set10 | with_reducible apply Bx.set20 | with_reducible apply Bx.set21 | with_reducible apply Bx.set30 | with_reducible apply Bx.set31 | with_reducible apply Bx.set32 | with_reducible apply Bx.set40 | with_reducible apply Bx.set41 | with_reducible apply Bx.set42 | with_reducible apply Bx.set43 | ((with_reducible refine Bx.set_other ?_ ?_ _); rotate_left; (simp <;> omega)))); done) | ((repeat (first | with_reducible exact Ext.refl _ | with_reducible assumption | with_reducible refine Ext.pAlloc ?_ _ | ((with_reducible refine Ext.pSet ?_ ?_ _); rotate_left; (simp <;> omega)) | with_reducible refine Ext.pDrew ?_ | with_reducible refine Ext.pDrewN ?_ _)); done))
      refine wpT_take (i := 0) (v := ?_) rfl (by kernel_rfl) (by decide) (by kernel_rfl) (by kernel_rfl) (by kernel_rfl) (fun _ _ _ h => h) (Or.inl ⟨by rfl, ?_⟩) (by assumption) ?_
      rotate_left
      · intro w9 hSw; (try dsimp only at hSw); go_simp; (first | done | with_reducible rfl)
      (try simp only [List.getElem_toArray, List.getElem_cons_succ, List.getElem_cons_zero, Act.put, List.setIfInBounds_toArray, List.set_cons_zero, List.set_cons_succ])
      refine wpT_take (i := 1) (v := ?_) rfl (by kernel_rfl) (by decide) (by kernel_rfl) (by kernel_rfl) (by kernel_rfl) (fun _ _ _ h => h) (Or.inl ⟨by rfl, ?_⟩) (by assumption) ?_
      rotate_left
      · intro w9 hSw; (try dsimp only at hSw); go_simp; (first | done | with_reducible rfl)
      (try simp only [List.getElem_toArray, List.getElem_cons_succ, List.getElem_cons_zero, Act.put, List.setIfInBounds_toArray, List.set_cons_zero, List.set_cons_succ])
      refine wpT_take (i := 2) (v := ?_) rfl (by kernel_rfl) (by decide) (by kernel_rfl) (by kernel_rfl) (by kernel_rfl) (fun _ _ _ h => h) (Or.inl ⟨by rfl, ?_⟩) (by assumption) ?_
      rotate_left
      · intro w9 hSw; (try dsimp only at hSw); go_simp; (first | done | with_reducible rfl)
      (try simp only [List.getElem_toArray, List.getElem_cons_succ, List.getElem_cons_zero, Act.put, List.setIfInBounds_toArray, List.set_cons_zero, List.set_cons_succ])
      refine wpT_take (i := 3) (v := ?_) rfl (by kernel_rfl) (by decide) (by kernel_rfl) (by kernel_rfl) (by kernel_rfl) (fun _ _ _ h => h) (Or.inl ⟨by rfl, ?_⟩) (by assumption) ?_
      rotate_left
      · intro w9 hSw; (try dsimp only at hSw); go_simp; (first | done | with_reducible rfl)
      (try simp only [List.getElem_toArray, List.getElem_cons_succ, List.getElem_cons_zero, Act.put, List.setIfInBounds_toArray, List.set_cons_zero, List.set_cons_succ])
      refine wpT_take (i := 4) (v := ?_) rfl (by kernel_rfl) (by decide) (by kernel_rfl) (by kernel_rfl) (by kernel_rfl) (fun _ _ _ h => h) (Or.inl ⟨by rfl, ?_⟩) (by assumption) ?_
      rotate_left
      · intro w9 hSw; (try dsimp only at hSw); go_simp; (first | done | with_reducible rfl)
      (try simp only [List.getElem_toArray, List.getElem_cons_succ, List.getElem_cons_zero, Act.put, List.setIfInBounds_toArray, List.set_cons_zero, List.set_cons_succ])
      refine wpT_take (i := 5) (v := ?_) rfl (by kernel_rfl) (by decide) (by kernel_rfl) (by kernel_rfl) (by kernel_rfl) (fun _ _ _ h => h) (Or.inl ⟨by rfl, ?_⟩) (by assumption) ?_
      rotate_left
      · intro w9 hSw; (try dsimp only at hSw); go_simp; (first | done | with_reducible rfl)
      (try simp only [List.getElem_toArray, List.getElem_cons_succ, List.getElem_cons_zero, Act.put, List.setIfInBounds_toArray, List.set_cons_zero, List.set_cons_succ])
      refine wpT_take (i := 6) (v := ?_) rfl (by kernel_rfl) (by decide) (by kernel_rfl) (by kernel_rfl) (by kernel_rfl) (fun _ _ _ h => h) (Or.inl ⟨by rfl, ?_⟩) (by assumption) ?_
      rotate_left
      · intro w9 hSw; (try dsimp only at hSw); go_simp; (first | done | with_reducible rfl)
      (try simp only [List.getElem_toArray, List.getElem_cons_succ, List.getElem_cons_zero, Act.put, List.setIfInBounds_toArray, List.set_cons_zero, List.set_cons_succ])
      refine wpT_take (i := 7) (v := ?_) rfl (by kernel_rfl) (by decide) (by kernel_rfl) (by kernel_rfl) (by kernel_rfl) (fun _ _ _ h => h) (Or.inl ⟨by rfl, ?_⟩) (by assumption) ?_
      rotate_left
      · intro w9 hSw; (try dsimp only at hSw); go_simp; (first | done | with_reducible rfl)
      (try simp only [List.getElem_toArray, List.getElem_cons_succ, List.getElem_cons_zero, Act.put, List.setIfInBounds_toArray, List.set_cons_zero, List.set_cons_succ])
      refine wpT_take (i := 8) (v := ?_) rfl (by kernel_rfl) (by decide) (by kernel_rfl) (by kernel_rfl) (by kernel_rfl) (fun _ _ _ h => h) (Or.inl ⟨by rfl, ?_⟩) (by assumption) ?_
      rotate_left
      · intro w9 hSw; (try dsimp only at hSw); go_simp; (first | done | with_reducible rfl)
      (try simp only [List.getElem_toArray, List.getElem_cons_succ, List.getElem_cons_zero, Act.put, List.setIfInBounds_toArray, List.set_cons_zero, List.set_cons_succ])
      refine wpT_take (i := 9) (v := ?_) rfl (by kernel_rfl) (by decide) (by kernel_rfl) (by kernel_rfl) (by kernel_rfl) (fun _ _ _ h => h) (Or.inl ⟨by rfl, ?_⟩) (by assumption) ?_
      rotate_left
      · intro w9 hSw; (try dsimp only at hSw); go_simp; (first | done | with_reducible rfl)
      (try simp only [List.getElem_toArray, List.getElem_cons_succ, List.getElem_cons_zero, Act.put, List.setIfInBounds_toArray, List.set_cons_zero, List.set_cons_succ])
      refine wpT_take (i := 10) (v := ?_) rfl (by kernel_rfl) (by decide) (by kernel_rfl) (by kernel_rfl) (by kernel_rfl) (fun _ _ _ h => h) (Or.inl ⟨by rfl, ?_⟩) (by assumption) ?_
      rotate_left
      · intro w9 hSw; (try dsimp only at hSw); go_simp; (first | done | with_reducible rfl)
      (try simp only [List.getElem_toArray, List.getElem_cons_succ, List.getElem_cons_zero, Act.put, List.setIfInBounds_toArray, List.set_cons_zero, List.set_cons_succ])
      refine wpT_take (i := 11) (v := ?_) rfl (by kernel_rfl) (by decide) (by kernel_rfl) (by kernel_rfl) (by kernel_rfl) (fun _ _ _ h => h) (Or.inl ⟨by rfl, ?_⟩) (by assumption) ?_
      rotate_left
      · intro w9 hSw; (try dsimp only at hSw); go_simp; (first | done | with_reducible rfl)
      (try simp only [List.getElem_toArray, List.getElem_cons_succ, List.getElem_cons_zero, Act.put, List.setIfInBounds_toArray, List.set_cons_zero, List.set_cons_succ])
      refine wpT_take (i := 12) (v := ?_) rfl (by kernel_rfl) (by decide) (by kernel_rfl) (by kernel_rfl) (by kernel_rfl) (fun _ _ _ h => h) (Or.inl ⟨by rfl, ?_⟩) (by assumption) ?_
      rotate_left
      · intro w9 hSw; (try dsimp only at hSw); go_simp; (first | done | with_reducible rfl)
      (try simp only [List.getElem_toArray, List.getElem_cons_succ, List.getElem_cons_zero, Act.put, List.setIfInBounds_toArray, List.set_cons_zero, List.set_cons_succ])
      refine wpT_take (i := 13) (v := ?_) rfl (by kernel_rfl) (by decide) (by kernel_rfl) (by kernel_rfl) (by kernel_rfl) (fun _ _ _ h => h) (Or.inl ⟨by rfl, ?_⟩) (by assumption) ?_
      rotate_left
      · intro w9 hSw; (try dsimp only at hSw); go_simp; (first | done | with_reducible rfl)
      (try simp only [List.getElem_toArray, List.getElem_cons_succ, List.getElem_cons_zero, Act.put, List.setIfInBounds_toArray, List.set_cons_zero, List.set_cons_succ])
      refine wpT_take (i := 14) (v := ?_) rfl (by kernel_rfl) (by decide) (by kernel_rfl) (by kernel_rfl) (by kernel_rfl) (fun _ _ _ h => h) (Or.inl ⟨by rfl, ?_⟩) (by assumption) ?_
      rotate_left
      · intro w9 hSw; (try dsimp only at hSw); go_simp; (first | done | with_reducible rfl)
      (try simp only [List.getElem_toArray, List.getElem_cons_succ, List.getElem_cons_zero, Act.put, List.setIfInBounds_toArray, List.set_cons_zero, List.set_cons_succ])
      refine wpT_last (by kernel_rfl) (by kernel_rfl) rfl (fun K hK => ?_)
      clear hHeld
      go_simp
      refine hK.out _ _ ?_
      clear hK K
      go_wp2
      go_roundw
      case rel => exact ⟨i + 1, _, valI (by push_cast; omega), by omega, Lib.hid (by repeat (first | with_reducible assumption | with_reducible exact Bx.new _ _ _ _ rfl | ((with_reducible refine Bx.new _ _ _ _ ?_); simp; done) | with_reducible refine Bx.pAlloc ?_ _ | with_reducible refine Bx.pDrew ?_ | with_reducible refine Bx.pDrewN ?_ _ | with_reducible apply Bx.set10 | with_reducible apply Bx.set20 | with_reducible apply Bx.set21 | with_reducible apply Bx.set30 | with_reducible apply Bx.set31 | with_reducible apply Bx.set32 | with_reducible apply Bx.set40 | with_reducible apply Bx.set41 | with_reducible apply Bx.set42 | with_reducible apply Bx.set43 | ((with_reducible refine Bx.set_other ?_ ?_ _); rotate_left; (simp <;> omega)))), Lib.hid (by repeat (first | with_reducible exact Ext.refl _ | with_reducible assumption | with_reducible refine Ext.pAlloc ?_ _ | ((with_reducible refine Ext.pSet ?_ ?_ _); rotate_left; (simp <;> omega)) | with_reducible refine Ext.pDrew ?_ | with_reducible refine Ext.pDrewN ?_ _))⟩
      case measure => simp [intOf]; omega
    · have hd : decide ((i : Int) < n) = false := by rw [decide_eq_false_iff_not]; omega
      have hd' : ¬ i < n := hlt
      go_wp2
      go_ret
      refine ⟨w.heap.size, rfl, Nat.le_refl _, ⟨0, h, Nat.zero_le _, hn, hB.out⟩, fun j hj => ?_, X.out⟩
      obtain ⟨b, off, x, e, h0, h9, hc⟩ := HB.out j hj
      have hlt : b < w.heap.size := World.block_lt_of_cell? _ _ hc
      exact ⟨b, off, x, e, by omega, h0, h9, cell_ext hc X.out⟩
end Go.Proofs.Ytjjeagblgjmcpaa
