/- The dice of the laws as one fact; a letter that the laws draw. -/
import Derived.Test.YtjjeagblgjmcpaaRol
import Derived.Test.YtjjeagblgjmcpaaNt5
set_option linter.unusedVariables false
set_option linter.unusedSimpArgs false
namespace Go.Proofs.Ytjjeagblgjmcpaa
open Go.RowKit Go.Sl


theorem Chg.newL {l h lo hi : Nat} {a b c : World} (p : Chg l h a b) (k : Chg lo hi b c) (hl : a.heap.size ≤ lo) : Chg l h a c :=
  ⟨k.os.trans p.os, k.tape.trans p.tape, k.output.trans p.output, Nat.le_trans p.size k.size,
    fun i hi hn => (k.block i (Nat.lt_of_lt_of_le hi p.size) (by omega)).trans (p.block i hi hn)⟩
theorem int_ownL (lo hi : Nat) (w : World) (x : Int) : intC.own lo hi w [.int .i64 x] x := ⟨[], ⟨rfl, rfl⟩, List.nodup_nil, by simp⟩
theorem nil_ownL {α : Type} {R : Cd α} (lo hi : Nat) (w : World) : (sliceC R).own lo hi w [.slice none 0 0] [] :=
  ⟨[], ⟨none, 0, [], [], rfl, Nat.le_refl _, Nat.zero_le _, .inl ⟨rfl, rfl, rfl⟩, ⟨rfl, rfl⟩, rfl⟩, List.nodup_nil, by simp⟩
/-- The dice of a law, at block db, its code as it was at the law's start. -/
structure Dd (W : World) (a : Option Addr) (n cc db : Nat) (w : World) : Prop where
  rd : RD w db a n cc
  ext : Ext W w
  code : CodeR W a n
  hi : W.heap.size ≤ db
section
variable {W w w' : World} {a : Option Addr} {n cc db lo hi : Nat}
theorem Dd.grow (h : Dd W a n cc db w) (he : Ext w w') : Dd W a n cc db w' := ⟨RD.ext h.rd he, h.ext.trans he, h.code, h.hi⟩
theorem Dd.chg (h : Dd W a n cc db w) (hC : Chg lo hi w w') (hd : db < lo) : Dd W a n cc db w' := ⟨RD.chg h.rd hC (.inl hd), Chg.ext h.ext hC (by have := h.hi; omega), h.code, h.hi⟩
theorem Dd.lt (h : Dd W a n cc db w) : db < w.heap.size := h.rd.lt
theorem Dd.set (h : Dd W a n cc db w) {b j : Nat} (hb : db < b) (v : Value) : Dd W a n cc db (w.setCell ⟨b, j, none⟩ v) := h.chg (lo := b) (hi := b + 1) (Chg.setCell w ⟨b, j, none⟩ v (Nat.le_refl _) (Nat.lt_succ_self _)) hb
theorem Dd.size (h : Dd W a n cc db w) : W.heap.size < w.heap.size := by have := h.hi; have := h.lt; omega
theorem Dd.below (h : Dd W a n cc db w) (m : Int) (hm : 0 < m) :
    Calls Try.prog 8 #[.pointer (some ⟨db, 0, none⟩), .int .i64 m] w fun e w' => ∃ x : Int, 0 ≤ x ∧ x < m ∧ e = .returned (.int .i64 x) ∧ Dd W a n cc db w' ∧ Chg db (db + 1) w w' :=
  (below_c db n cc a m w hm h.rd (CodeD.of h.code h.ext h.hi)).mono fun e w' ⟨x, h0, h1, he, hD, hC⟩ => ⟨x, h0, h1, he, ⟨hD, Chg.ext h.ext hC h.hi, h.code, h.hi⟩, hC⟩
end
theorem letter_ok {x y : Int} {row : List Int} (hx : 0 ≤ x ∧ x < 6) (hy : 0 ≤ y ∧ y < 5) (h1 : 0 < row.length) (h2 : row.length ≤ 4) (h3 : ∀ z ∈ row, 0 ≤ z ∧ z < 100) : msgOk (x, (x + 1 + y) % 6, row) = true := by
  simp only [msgOk, apart, nodeOk, inB, rowOk, Bool.and_eq_true, Bool.not_eq_true', decide_eq_true_eq, decide_eq_false_iff_not, List.all_eq_true, inRow]
  refine ⟨⟨⟨⟨⟨by omega, by omega⟩, by omega, by omega⟩, by omega⟩, h1⟩, by omega, fun z hz => ?_⟩
  have := h3 z hz
  omega
set_option maxHeartbeats 1600000 in
set_option maxRecDepth 20000 in
theorem w9Letter_c (W : World) (a : Option Addr) (n cc db : Nat) (w : World) (h : Dd W a n cc db w) :
    Calls Try.prog 17 #[.pointer (some ⟨db, 0, none⟩)] w fun e w' => ∃ (v : Value) (m : MsgD), e = .returned (.agg #[.int .i64 m.1, .int .i64 m.2.1, v]) ∧ msgOk m = true ∧ Dd W a n cc db w' ∧ Chg db (db + 1) w w' ∧ msgC.own w.heap.size w'.heap.size w' [.int .i64 m.1, .int .i64 m.2.1, v] m := by
  have hlt := h.lt
  have hWd := h.hi
  have H := Lib.hid h
  have Hinf := Lib.hid Try.infoI
  clear h
  go_enter Try.func17, Try.ntmps17
  go_wp2_with fail
  refine ((H.out.grow (Ext.alloc _ _)).below 6 (by decide)).mono ?_
  rintro e w1 ⟨x, hx0, hx1, rfl, hD1, hC1⟩
  have z1 : w.heap.size + 1 ≤ w1.heap.size := by have := hC1.size; (try simp at this); omega
  have B0 : Bx w1 w.heap.size [.int .i64 0, .int .i64 0, .slice none 0 0] := Bx.chg (Bx.new _ _ _ _ rfl) hC1 (by omega)
  have HD1 := Lib.hid hD1
  have HC1 : Hid (Chg db (db + 1) w w1) := ((Ext.alloc _ _).chg _ _).trans hC1
  have c00 := B0.cell 0 _ rfl; have c01 := B0.cell 1 _ rfl; have c02 := B0.cell 2 _ rfl; have l0 := B0.lt; have f0 := B0.fr
  have hw1 : IntKind.i64.wrap (x + 1) = x + 1 := IntWalk.i64_in _ (by omega)
  clear hD1 hC1 H
  go_wp2
  refine wp_region_T (S := fun ω => ω.cell? ⟨w1.heap.size, 0, none⟩ = some (.int .i64 x) ∧ Bx ω (w.heap.size) [.int .i64 0, .int .i64 0, .slice none 0 0] ∧ Bx ω (w1.heap.size) [.int .i64 x, .int .i64 0, .slice none 0 0] ∧ Ext W ω) 8 (by kernel_rfl) ?_ (fun hHeld => ?_) (by decide)
  · (try dsimp only); (refine ⟨?_, ?_, ?_, ?_⟩ <;> first | (simp [go_sem]; done) | (simp [*, go_sem]; done) | ((repeat (first | with_reducible assumption | with_reducible exact Bx.new _ _ _ _ rfl | ((with_reducible refine Bx.new _ _ _ _ ?_); simp; done) | with_reducible refine Bx.pAlloc ?_ _ | with_reducible refine Bx.pDrew ?_ | with_reducible refine Bx.pDrewN ?_ _ | with_reducible apply Bx.set10 | with_reducible apply Bx.set20 | with_reducible apply Bx.set21 | with_reducible apply Bx.set30 | with_reducible apply Bx.set31 | with_reducible apply Bx.set32 | with_reducible apply Bx.set40 | with_reducible apply Bx.set41 | with_reducible apply Bx.set42 | with_reducible apply Bx.set43 | ((with_reducible refine Bx.set_other ?_ ?_ _); rotate_left; (simp <;> omega)))); done) | ((exact HD1.out.ext.trans ((Ext.alloc _ _).trans (Ext.drew _))); done))
  refine wpT_take (i := 0) (v := ?_) rfl (by kernel_rfl) (by decide) (by kernel_rfl) (by kernel_rfl) (by kernel_rfl) (fun _ _ _ h => h) (Or.inl ⟨by rfl, ?_⟩) (by assumption) ?_
  rotate_left
  · intro w9 hSw; (try dsimp only at hSw); go_simp; (first | done | with_reducible rfl)
  (try simp only [List.getElem_toArray, List.getElem_cons_succ, List.getElem_cons_zero, Act.put, List.setIfInBounds_toArray, List.set_cons_zero, List.set_cons_succ])
  refine wpT_take (i := 1) (v := ?_) rfl (by kernel_rfl) (by decide) (by kernel_rfl) (by kernel_rfl) (by kernel_rfl) (fun _ _ _ h => h) (Or.inl ⟨by rfl, ?_⟩) (by assumption) ?_
  rotate_left
  · intro w9 hSw; (try dsimp only at hSw); go_simp; (first | done | with_reducible rfl)
  (try simp only [List.getElem_toArray, List.getElem_cons_succ, List.getElem_cons_zero, Act.put, List.setIfInBounds_toArray, List.set_cons_zero, List.set_cons_succ])
  refine wpT_take (i := 2) (v := ?_) rfl (by kernel_rfl) (by decide) (by kernel_rfl) (by kernel_rfl) (by kernel_rfl) (fun _ _ _ h => h) (Or.inl ⟨by rfl, ?_⟩) (by assumption) ?_
  rotate_left
  · intro w9 hSw; (try dsimp only at hSw); go_simp; (first | done | with_reducible rfl)
  (try simp only [List.getElem_toArray, List.getElem_cons_succ, List.getElem_cons_zero, Act.put, List.setIfInBounds_toArray, List.set_cons_zero, List.set_cons_succ])
  refine wpT_take (i := 3) (v := ?_) rfl (by kernel_rfl) (by decide) (by kernel_rfl) (by kernel_rfl) (by kernel_rfl) (fun _ _ _ h => h) (Or.inl ⟨by rfl, ?_⟩) (by assumption) ?_
  rotate_left
  · intro w9 hSw; (try dsimp only at hSw); go_simp; (first | done | with_reducible rfl)
  (try simp only [List.getElem_toArray, List.getElem_cons_succ, List.getElem_cons_zero, Act.put, List.setIfInBounds_toArray, List.set_cons_zero, List.set_cons_succ])
  refine wpT_step (i := 4) (by kernel_rfl) (by decide) rfl (fun K hK => ?_)
  go_simp
  refine ((HD1.out.grow ((Ext.alloc _ _).trans (Ext.drew _))).below 5 (by decide)).mono ?_
  rintro e w2 ⟨y, hy0, hy1, rfl, hD2, hC2⟩
  have hw2 : IntKind.i64.wrap (x + 1 + y) = x + 1 + y := IntWalk.i64_in _ (by omega)
  have hw3 : (x + 1 + y).tmod 6 = (x + 1 + y) % 6 := by rw [Int.tmod_eq_emod_of_nonneg (by omega)]
  (try go_wp2_with fail)
  refine hK.out _ _ ?_ (fun hHeld2 => ?_)
  · (try dsimp only); (obtain ⟨s0, s1, s2, s3⟩ := hHeld; exact ⟨cell_chg s0 hC2 (by omega), Bx.chg s1 hC2 (by omega), Bx.chg s2 hC2 (by omega), Chg.ext s3 hC2 (by omega)⟩)
  clear hK K hHeld
  rename _ => hHeld
  (try simp only [List.getElem_toArray, List.getElem_cons_succ, List.getElem_cons_zero, Act.put, List.setIfInBounds_toArray, List.set_cons_zero, List.set_cons_succ])
  refine wpT_take (i := 5) (v := ?_) rfl (by kernel_rfl) (by decide) (by kernel_rfl) (by kernel_rfl) (by kernel_rfl) (fun _ _ _ h => h) (Or.inl ⟨by rfl, ?_⟩) (by assumption) ?_
  rotate_left
  · intro w9 hSw; (try dsimp only at hSw); go_simp; (first | done | with_reducible rfl)
  (try simp only [List.getElem_toArray, List.getElem_cons_succ, List.getElem_cons_zero, Act.put, List.setIfInBounds_toArray, List.set_cons_zero, List.set_cons_succ])
  refine wpT_take (i := 6) (v := ?_) rfl (by kernel_rfl) (by decide) (by kernel_rfl) (by kernel_rfl) (by kernel_rfl) (fun _ _ _ h => h) (Or.inl ⟨by rfl, ?_⟩) (by assumption) ?_
  rotate_left
  · intro w9 hSw; (try dsimp only at hSw); go_simp; (first | done | with_reducible rfl)
  (try simp only [List.getElem_toArray, List.getElem_cons_succ, List.getElem_cons_zero, Act.put, List.setIfInBounds_toArray, List.set_cons_zero, List.set_cons_succ])
  refine wpT_take (i := 7) (v := ?_) rfl (by kernel_rfl) (by decide) (by kernel_rfl) (by kernel_rfl) (by kernel_rfl) (fun _ _ _ h => h) (Or.inl ⟨by rfl, ?_⟩) (by assumption) ?_
  rotate_left
  · intro w9 hSw; (try dsimp only at hSw); go_simp; (first | done | with_reducible rfl)
  (try simp only [List.getElem_toArray, List.getElem_cons_succ, List.getElem_cons_zero, Act.put, List.setIfInBounds_toArray, List.set_cons_zero, List.set_cons_succ])
  refine wpT_last (by kernel_rfl) (by kernel_rfl) rfl (fun K hK => ?_)
  have B0 := hHeld.2.1; have B1 := hHeld.2.2.1
  have c10 := B1.cell 0 _ rfl; have c11 := B1.cell 1 _ rfl; have c12 := B1.cell 2 _ rfl; have l1 := B1.lt; have f1 := B1.fr
  clear hHeld c00 c01 c02 l0 f0
  go_simp
  refine hK.out _ _ ?_
  clear hK K
  have hw3 : (x + 1 + y).tmod 6 = (x + 1 + y) % 6 := by rw [Int.tmod_eq_emod_of_nonneg (by omega)]
  have z2 : w1.heap.size + 1 ≤ w2.heap.size := by have := hC2.size; (try simp at this); omega
  have HD2 := Lib.hid hD2
  have HC2 : Hid (Chg db (db + 1) w w2) := HC1.out.trans (((((Ext.alloc _ _).trans (Ext.drew _)).chg _ _).trans hC2))
  have c10 := B1.cell 0 _ rfl; have c11 := B1.cell 1 _ rfl; have c12 := B1.cell 2 _ rfl; have l1 := B1.lt; have f1 := B1.fr
  clear hD2 hC2 HD1 HC1 hw2
  have hw4 : ∀ z : Int, 0 ≤ z → z < 4 → IntKind.i64.wrap (1 + z) = 1 + z := fun z h1 h2 => IntWalk.i64_in _ (by omega)
  go_wp2_with fail
  have HB0 := Lib.hid B0; have HB1 := Lib.hid (Bx.set31 B1 (.int .i64 ((x + 1 + y) % 6)))
  refine ((HD2.out.set (b := w1.heap.size) (j := 1) (by omega) (.int .i64 ((x + 1 + y) % 6))).below 4 (by decide)).mono ?_
  rintro e w3 ⟨k, hk0, hk1, rfl, hD3, hC3⟩
  have z3 : w2.heap.size ≤ w3.heap.size := by have := hC3.size; (try simp [World.setCell] at this); omega
  have HD3 := Lib.hid hD3
  have HC3 : Hid (Chg db (db + 1) w w3) := (Chg.newL HC2.out (Chg.setCell w2 ⟨w1.heap.size, 1, none⟩ (.int .i64 ((x + 1 + y) % 6)) (Nat.le_refl _) (Nat.lt_succ_self _)) (by show w.heap.size ≤ w1.heap.size; omega)).trans hC3
  have HB03 := Lib.hid (Bx.chg (Bx.set_other HB0.out (b' := w1.heap.size) (j := 1) (by omega) (.int .i64 ((x + 1 + y) % 6))) hC3 (by omega))
  have HB13 := Lib.hid (Bx.chg HB1.out hC3 (by omega))
  have hk5 := hw4 k hk0 hk1
  obtain ⟨k, rfl⟩ := Int.eq_ofNat_of_zero_le hk0
  have Hk5 := Lib.hid hk5
  clear hD3 hC3 HB0 HB1 B0 B1 HD2 HC2 c10 c11 c12 l1 f1 hw3 hw4 hk5 hw1
  generalize hT : (x + 1 + y) % 6 = t at *
  have HT := Lib.hid hT
  clear hT
  go_wp2
  go_loopw [4] (fun v4 wr => ∃ (j : Nat) (row : List Int) (ra : Option Addr) (rc : Nat), v4 = .int .i64 j ∧ j ≤ 4 ∧ row.length + j ≤ 4 ∧ 1 ≤ row.length + j ∧ Hid (∀ z ∈ row, 0 ≤ z ∧ z < 100) ∧
    Hid (Dd W a n cc db wr ∧ Chg db (db + 1) w wr ∧ Bx wr w.heap.size [.int .i64 0, .int .i64 0, .slice none 0 0] ∧ Bx wr w1.heap.size [.int .i64 x, .int .i64 t, .slice ra row.length rc] ∧ rowC.own (w1.heap.size + 1) wr.heap.size wr [.slice ra row.length rc] row) ∧ w2.heap.size ≤ wr.heap.size) (fun v4 _ => (intOf v4).toNat)
  case atStart => exact ⟨k + 1, [], none, 0, valI (by omega), by omega, by simp; omega, by simp, Lib.hid (by simp), Lib.hid ⟨HD3.out, HC3.out, HB03.out, HB13.out, nil_ownL _ _ _⟩, by omega⟩
  case round =>
    obtain ⟨j, row, ra, rc, rfl, hj4, hjr, hjr1, HR, HI, zr⟩ := hrel
    have B0 := HI.out.2.2.1; have B1 := HI.out.2.2.2.1
    have c00 := B0.cell 0 _ rfl; have c01 := B0.cell 1 _ rfl; have c02 := B0.cell 2 _ rfl; have l0 := B0.lt; have f0 := B0.fr
    have c10 := B1.cell 0 _ rfl; have c11 := B1.cell 1 _ rfl; have c12 := B1.cell 2 _ rfl; have l1 := B1.lt; have f1 := B1.fr
    by_cases hj0 : 0 < j
    · have hjd : decide ((0 : Int) < j) = true := by rw [decide_eq_true_iff]; omega
      have hw5 : IntKind.i64.wrap ((j : Int) - 1) = ((j - 1 : Nat) : Int) := by rw [IntWalk.i64_in _ (by omega)]; omega
      go_wp2
      refine wp_region_T (S := fun ω => ω.cell? ⟨w1.heap.size, 2, none⟩ = some (.slice ra row.length rc) ∧ Bx ω (w.heap.size) [.int .i64 0, .int .i64 0, .slice none 0 0] ∧ Bx ω (w1.heap.size) [.int .i64 x, .int .i64 t, .slice ra row.length rc] ∧ Ext W ω) 7 (by kernel_rfl) ?_ (fun hHeld => ?_) (by decide)
      · (try dsimp only); (refine ⟨?_, ?_, ?_, ?_⟩ <;> first | (simp [go_sem]; done) | (simp [*, go_sem]; done) | ((repeat (first | with_reducible assumption | with_reducible exact Bx.new _ _ _ _ rfl | ((with_reducible refine Bx.new _ _ _ _ ?_); simp; done) | with_reducible refine Bx.pAlloc ?_ _ | with_reducible refine Bx.pDrew ?_ | with_reducible refine Bx.pDrewN ?_ _ | with_reducible apply Bx.set10 | with_reducible apply Bx.set20 | with_reducible apply Bx.set21 | with_reducible apply Bx.set30 | with_reducible apply Bx.set31 | with_reducible apply Bx.set32 | with_reducible apply Bx.set40 | with_reducible apply Bx.set41 | with_reducible apply Bx.set42 | with_reducible apply Bx.set43 | ((with_reducible refine Bx.set_other ?_ ?_ _); rotate_left; (simp <;> omega)))); done) | ((exact HI.out.1.ext.trans (Ext.drew _)); done))
      refine wpT_take (i := 0) (v := ?_) rfl (by kernel_rfl) (by decide) (by kernel_rfl) (by kernel_rfl) (by kernel_rfl) (fun _ _ _ h => h) (Or.inl ⟨by rfl, ?_⟩) (by assumption) ?_
      rotate_left
      · intro w9 hSw; (try dsimp only at hSw); go_simp; (first | done | with_reducible rfl)
      (try simp only [List.getElem_toArray, List.getElem_cons_succ, List.getElem_cons_zero, Act.put, List.setIfInBounds_toArray, List.set_cons_zero, List.set_cons_succ])
      refine wpT_take (i := 1) (v := ?_) rfl (by kernel_rfl) (by decide) (by kernel_rfl) (by kernel_rfl) (by kernel_rfl) (fun _ _ _ h => h) (Or.inl ⟨by rfl, ?_⟩) (by assumption) ?_
      rotate_left
      · intro w9 hSw; (try dsimp only at hSw); go_simp; (first | done | with_reducible rfl)
      (try simp only [List.getElem_toArray, List.getElem_cons_succ, List.getElem_cons_zero, Act.put, List.setIfInBounds_toArray, List.set_cons_zero, List.set_cons_succ])
      refine wpT_take (i := 2) (v := ?_) rfl (by kernel_rfl) (by decide) (by kernel_rfl) (by kernel_rfl) (by kernel_rfl) (fun _ _ _ h => h) (Or.inl ⟨by rfl, ?_⟩) (by assumption) ?_
      rotate_left
      · intro w9 hSw; (try dsimp only at hSw); go_simp; (first | done | with_reducible rfl)
      (try simp only [List.getElem_toArray, List.getElem_cons_succ, List.getElem_cons_zero, Act.put, List.setIfInBounds_toArray, List.set_cons_zero, List.set_cons_succ])
      refine wpT_step (i := 3) (by kernel_rfl) (by decide) rfl (fun K hK => ?_)
      go_simp
      refine ((HI.out.1.grow (Ext.drew _)).below 100 (by decide)).mono ?_
      rintro e w5 ⟨z, hz0, hz1, rfl, hD5, hC5⟩
      have O5 := (HI.out.2.2.2.2.pDrew).chg hC5 (by omega)
      have z5 : wr.heap.size ≤ w5.heap.size := by have := hC5.size; (try simp at this); omega
      (try go_wp2_with fail)
      refine hK.out _ _ ?_ (fun hHeld2 => ?_)
      · (try dsimp only); (obtain ⟨s0, s1, s2, s3⟩ := hHeld; exact ⟨cell_chg s0 hC5 (by omega), Bx.chg s1 hC5 (by omega), Bx.chg s2 hC5 (by omega), Chg.ext s3 hC5 (by omega)⟩)
      clear hK K hHeld
      rename _ => hHeld
      (try simp only [List.getElem_toArray, List.getElem_cons_succ, List.getElem_cons_zero, Act.put, List.setIfInBounds_toArray, List.set_cons_zero, List.set_cons_succ])
      refine wpT_step (i := 4) (by kernel_rfl) (by decide) rfl (fun K hK => ?_)
      go_simp
      refine hK.out _ _ ?_ (fun hHeld2 => ?_)
      · (try dsimp only); (obtain ⟨s0, s1, s2, s3⟩ := hHeld; exact ⟨cell_ext s0 (Ext.alloc _ _), Bx.ext s1 (Ext.alloc _ _), Bx.ext s2 (Ext.alloc _ _), s3.trans (Ext.alloc _ _)⟩)
      clear hK K hHeld
      rename _ => hHeld
      (try simp only [List.getElem_toArray, List.getElem_cons_succ, List.getElem_cons_zero, Act.put, List.setIfInBounds_toArray, List.set_cons_zero, List.set_cons_succ])
      refine wpT_step (i := 5) (by kernel_rfl) (by decide) rfl (fun K hK => ?_)
      rw [if_pos (by rfl)]
      refine opwp_snocC (R := intC) (y := z) (lo := w1.heap.size + 1) (hi := wr.heap.size) (lo' := wr.heap.size) (hi' := wr.heap.size) _ _ _ (by rfl) 2 _ 8 Try.underlying38 Hinf.out (by rfl) (O5.pAlloc _) (by rfl) (int_ownL _ _ _ _) (Nat.le_refl _) (by omega) (by (try simp); omega) _ _ (by rfl) (CellsAt.lit _ _ _) (by omega) ?_
      rintro v6 w6 ⟨a5, c5, rfl⟩ hO6 hC6
      have z6 : w5.heap.size + 1 ≤ w6.heap.size := by have := hC6.size; (try simp at this); omega
      refine hK.out _ _ ?_ (fun hHeld2 => ?_)
      · (try dsimp only); (obtain ⟨s0, s1, s2, s3⟩ := hHeld; exact ⟨cell_chg s0 hC6 (by omega), Bx.chg s1 hC6 (by omega), Bx.chg s2 hC6 (by omega), Chg.ext s3 hC6 (by omega)⟩)
      clear hK K hHeld
      rename _ => hHeld
      (try simp only [List.getElem_toArray, List.getElem_cons_succ, List.getElem_cons_zero, Act.put, List.setIfInBounds_toArray, List.set_cons_zero, List.set_cons_succ])
      refine wpT_take (i := 6) (v := ?_) rfl (by kernel_rfl) (by decide) (by kernel_rfl) (by kernel_rfl) (by kernel_rfl) (fun _ _ _ h => h) (Or.inl ⟨by rfl, ?_⟩) (by assumption) ?_
      rotate_left
      · intro w9 hSw; (try dsimp only at hSw); go_simp; (first | done | with_reducible rfl)
      (try simp only [List.getElem_toArray, List.getElem_cons_succ, List.getElem_cons_zero, Act.put, List.setIfInBounds_toArray, List.set_cons_zero, List.set_cons_succ])
      refine wpT_last (by kernel_rfl) (by kernel_rfl) rfl (fun K hK => ?_)
      have D6 := (hD5.grow (Ext.alloc _ _)).chg hC6 (by omega)
      have C6 : Chg db (db + 1) w w6 := Chg.newL ((HI.out.2.1.trans (((Ext.drew _).chg _ _).trans hC5)).trans ((Ext.alloc _ _).chg _ _)) hC6 (by omega)
      have B06 := hHeld.2.1; have B16 := hHeld.2.2.1
      have HF : Hid (Dd W a n cc db (w6.setCell ⟨w1.heap.size, 2, none⟩ (.slice a5 (row.length + 1) c5)) ∧ Chg db (db + 1) w (w6.setCell ⟨w1.heap.size, 2, none⟩ (.slice a5 (row.length + 1) c5)) ∧ Bx (w6.setCell ⟨w1.heap.size, 2, none⟩ (.slice a5 (row.length + 1) c5)) w.heap.size [.int .i64 0, .int .i64 0, .slice none 0 0] ∧ Bx (w6.setCell ⟨w1.heap.size, 2, none⟩ (.slice a5 (row.length + 1) c5)) w1.heap.size [.int .i64 x, .int .i64 t, .slice a5 (row ++ [z]).length c5] ∧ rowC.own (w1.heap.size + 1) (w6.setCell ⟨w1.heap.size, 2, none⟩ (.slice a5 (row.length + 1) c5)).heap.size (w6.setCell ⟨w1.heap.size, 2, none⟩ (.slice a5 (row.length + 1) c5)) [.slice a5 (row ++ [z]).length c5] (row ++ [z])) := by
        rw [List.length_append, show [z].length = 1 from rfl]
        exact ⟨D6.set (by omega) _, Chg.newL C6 (Chg.setCell w6 ⟨w1.heap.size, 2, none⟩ _ (Nat.le_refl _) (Nat.lt_succ_self _)) (by show w.heap.size ≤ w1.heap.size; omega), Bx.set_other B06 (by omega) _, Bx.set32 B16 _, (Cd.own.pSet hO6 (.inl (by show w1.heap.size < w1.heap.size + 1; omega)) _).wide (Nat.le_refl _) (by simp [World.setCell])⟩
      have c10 := B16.cell 0 _ rfl; have c11 := B16.cell 1 _ rfl; have c12 := B16.cell 2 _ rfl; have l1 := B16.lt; have f1 := B16.fr
      clear D6 C6 B06 B16 hO6 hC6 hD5 hC5 O5 hHeld B0 B1 HI
      go_simp
      refine hK.out _ _ ?_
      clear hK K
      go_wp2
      go_roundw
      case rel => exact ⟨j - 1, row ++ [z], a5, c5, valI (by omega), by omega, by simp; omega, by rw [List.length_append]; show 1 ≤ row.length + 1 + (j - 1); omega, Lib.hid (fun u hu => by rcases List.mem_append.1 hu with h | h; exact HR.out u h; rw [List.mem_singleton.1 h]; exact ⟨hz0, hz1⟩), HF, by (try simp [World.setCell]); omega⟩
      case measure => simp [intOf]; omega
    · have hjd : decide ((0 : Int) < j) = false := by rw [decide_eq_false_iff_not]; omega
      go_wp2
      refine bodyPost_ret (v := .agg #[.int .i64 x, .int .i64 t, .slice ra row.length rc]) (by simp [results, Try.results17, go_sem, c00, c01, c02, l0]) rfl ⟨_, (x, t, row), rfl, ?_, ?_, ?_, ?_⟩
      · rw [← HT.out]
        exact letter_ok ⟨hx0, hx1⟩ ⟨hy0, hy1⟩ (by omega) (by omega) HR.out
      · repeat (first | exact HI.out.1 | refine Dd.set ?_ (by omega) _)
      · repeat (first | exact HI.out.2.1 | refine Chg.newL ?_ (Chg.setCell _ _ _ (Nat.le_refl _) (Nat.lt_succ_self _)) (by first | exact Nat.le_refl _ | omega))
      · refine msg_own.2 ⟨_, rfl, ?_⟩
        refine Cd.own.wide (lo := w1.heap.size + 1) (hi := wr.heap.size) ?_ (by omega) (by first | (simp [World.setCell]; done) | (simp [World.setCell]; omega))
        repeat (first | exact HI.out.2.2.2.2 | (refine Cd.own.pSet ?_ ?_ _; rotate_left; (simp <;> omega)))
end Go.Proofs.Ytjjeagblgjmcpaa
