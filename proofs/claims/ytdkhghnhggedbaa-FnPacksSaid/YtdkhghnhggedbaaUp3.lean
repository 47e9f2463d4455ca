/- Rows: unpacked by the program. -/
import Derived.Test.YtdkhghnhggedbaaUp2
set_option linter.unusedVariables false
set_option linter.unusedSimpArgs false
namespace Go.Proofs.Ytdkhghnhggedbaa
open Go.RowKit Go.Sl

set_option maxHeartbeats 800000 in
theorem next_y (cb t b off cap : Nat) (row : List Int) (w : World) (hB : Bx w cb [.slice (some ⟨b, off, none⟩) row.length cap, .int .i64 (t : Int)]) (x : Int) (hc : w.cell? ⟨b, off + t, none⟩ = some (.int .i64 x)) (ht : t < row.length) (hne : b ≠ cb) (hcap : row.length ≤ cap) (hm : cap ≤ 9223372036854775807) :
    Calls Try.prog 59 #[.pointer (some ⟨cb, 0, none⟩)] w fun e w' => e = .returned (.tuple #[.int .i64 x, .bool true]) ∧ Bx w' cb [.slice (some ⟨b, off, none⟩) row.length cap, .int .i64 ((t + 1 : Nat) : Int)] ∧ Chg cb (cb + 1) w w' := by
  have c0 := hB.cell 0 _ rfl
  have c1 := hB.cell 1 _ rfl
  have f1 := hB.fr
  have hi1 : (0 : Int) ≤ t := by omega
  have hi2 : (t : Int) < row.length := by omega
  have hd : decide ((row.length : Int) ≤ t) = false := by rw [decide_eq_false_iff_not]; omega
  have hd' : ¬ row.length ≤ t := by omega
  have hw1 : IntKind.i64.wrap ((t : Int) + 1) = t + 1 := IntWalk.i64_in _ (by omega)
  have hw2 : IntKind.i64.wrap ((t : Int) + 1 - 1) = t := by rw [show (t : Int) + 1 - 1 = t by omega]; exact IntWalk.i64_in _ (by omega)
  have hs1 : (t : Int) + 1 - 1 = t := by omega
  have hne' : cb ≠ b := fun e => hne e.symm
  go_enter Try.func59, Try.ntmps59
  go_wp2
  go_quiet (fail)
  go_wp2
  go_quiet (fail)
  go_wp2
  go_ret2
  refine ⟨rfl, ?_, ?_⟩
  · rw [show ((t + 1 : Nat) : Int) = (t : Int) + 1 by omega]
    first | exact Bx.pDrewN (Bx.set21 (Bx.pDrewN hB _) _) _ | exact Bx.pDrewN (Bx.set21 hB _) _ | exact (Bx.set21 hB _).ext (Ext.trans (Ext.drewN _ _) (Ext.drewN _ _))
  · first | exact (((Ext.drewN _ _).chg _ _).trans ((Chg.setCell _ _ _ (lo := cb) (hi := cb + 1) (Nat.le_refl _) (Nat.lt_succ_self _)).trans ((Ext.drewN _ _).chg _ _))) | exact ((Chg.setCell _ _ _ (lo := cb) (hi := cb + 1) (Nat.le_refl _) (Nat.lt_succ_self _)).trans ((Ext.drewN _ _).chg _ _))

theorem next_n (cb t b off cap : Nat) (row : List Int) (w : World) (hB : Bx w cb [.slice (some ⟨b, off, none⟩) row.length cap, .int .i64 (t : Int)]) (ht : t = row.length) :
    Calls Try.prog 59 #[.pointer (some ⟨cb, 0, none⟩)] w fun e w' => e = .returned (.tuple #[.int .i64 0, .bool false]) ∧ Ext w w' := by
  subst ht
  have c0 := hB.cell 0 _ rfl
  have c1 := hB.cell 1 _ rfl
  go_enter Try.func59, Try.ntmps59
  go_wp2
  go_quiet (fail)
  go_wp2
  go_ret2
  exact ⟨rfl, Ext.drewN _ _⟩

theorem next_e (cb cap : Nat) (a : Option Addr) (w : World) (hB : Bx w cb [.slice a 0 cap, .int .i64 0]) :
    Calls Try.prog 59 #[.pointer (some ⟨cb, 0, none⟩)] w fun e w' => e = .returned (.tuple #[.int .i64 0, .bool false]) ∧ Ext w w' := by
  have c0 := hB.cell 0 _ rfl
  have c1 := hB.cell 1 _ rfl
  go_enter Try.func59, Try.ntmps59
  go_wp2
  go_quiet (fail)
  go_wp2
  go_ret2
  exact ⟨rfl, Ext.drewN _ _⟩

theorem done_c (cb t b off cap : Nat) (row : List Int) (w : World) (hB : Bx w cb [.slice (some ⟨b, off, none⟩) row.length cap, .int .i64 (t : Int)]) (q : Bool) (hq : q = decide (t = row.length)) :
    Calls Try.prog 61 #[.pointer (some ⟨cb, 0, none⟩)] w fun e w' => e = .returned (.bool q) ∧ Ext w w' := by
  have c0 := hB.cell 0 _ rfl
  have c1 := hB.cell 1 _ rfl
  have Hq := Lib.hid hq
  clear hq
  go_enter Try.func61, Try.ntmps61
  go_wp2
  go_quiet (fail)
  go_wp2
  go_ret
  exact ⟨retB (by rw [Hq.out, Bool.eq_iff_iff]; simp; try omega), Ext.drewN _ _⟩

set_option maxHeartbeats 1600000 in
set_option maxRecDepth 20000 in
theorem take_y (cb t b off cap : Nat) (row : List Int) (w : World) (hB : Bx w cb [.slice (some ⟨b, off, none⟩) row.length cap, .int .i64 (t : Int)]) (z : Nat) (hV : rowC.V w [.slice (some ⟨b, off, none⟩) row.length cap] row) (hz : t + z ≤ row.length) (hcap : row.length ≤ cap) (hm : cap ≤ 9223372036854775807) (hl : row.length ≤ 48) :
    Calls Try.prog 60 #[.pointer (some ⟨cb, 0, none⟩), .int .i64 (z : Int)] w fun e w' => ∃ v', e = .returned (.tuple #[v', .bool true]) ∧ Bx w' cb [.slice (some ⟨b, off, none⟩) row.length cap, .int .i64 ((t + z : Nat) : Int)] ∧ rowC.own w.heap.size w'.heap.size w' [v'] ((row.drop t).take z) ∧ Chg cb (cb + 1) w w' := by
  have c0 := hB.cell 0 _ rfl
  have c1 := hB.cell 1 _ rfl
  have f1 := hB.fr
  have HV := Lib.hid hV
  clear hV
  have hd1 : decide ((z : Int) < 0) = false := by rw [decide_eq_false_iff_not]; omega
  have hd2 : decide ((row.length : Int) - t < z) = false := by rw [decide_eq_false_iff_not]; omega
  have hw1 : IntKind.i64.wrap ((t : Int) + z) = t + z := IntWalk.i64_in _ (by omega)
  have hw2 : IntKind.i64.wrap ((row.length : Int) - t) = row.length - t := IntWalk.i64_in _ (by omega)
  have hs0 : (0 : Int) ≤ t := by omega
  have hs1 : (t : Int) ≤ t + z := by omega
  have n0 := hB.lt
  have nlt := hB.lt
  have hn1 : ((t : Int) + (z : Int)).toNat = t + z := by omega
  have hn2 : t + z - t = z := by omega
  have hs2 : (t : Int) + z ≤ cap := by omega
  have hs3 : (t : Int) ≤ cap := by omega
  by_cases hct : cap = t
  · subst hct
    go_enter Try.func60, Try.ntmps60
    go_wp2
    go_quiet (fail)
    go_wp2
    refine wp_region_T (S := fun ω => ω.cell? ⟨cb, 0, none⟩ = some (.slice (some ⟨b, off, none⟩) row.length cap) ∧ ω.cell? ⟨cb, 1, none⟩ = some (.int .i64 cap) ∧ Bx ω (cb) [.slice (some ⟨b, off, none⟩) row.length cap, .int .i64 cap] ∧ Ext w ω) 16 (by kernel_rfl) ?_ (fun hHeld => ?_) (by decide)
    · (try dsimp only); (refine ⟨?_, ?_, ?_, ?_⟩ <;> first | (simp [go_sem]; done) | (simp [*, go_sem]; done) | ((repeat (first | with_reducible assumption | with_reducible exact Bx.new _ _ _ _ rfl | ((with_reducible refine Bx.new _ _ _ _ ?_); simp; done) | with_reducible refine Bx.pAlloc ?_ _ | with_reducible refine Bx.pDrew ?_ | with_reducible refine Bx.pDrewN ?_ _ | with_reducible apply Bx.set10 | with_reducible apply Bx.set20 | with_reducible apply Bx.set21 | with_reducible apply Bx.set30 | with_reducible apply Bx.set31 | with_reducible apply Bx.set32 | with_reducible apply Bx.set40 | with_reducible apply Bx.set41 | with_reducible apply Bx.set42 | with_reducible apply Bx.set43 | ((with_reducible refine Bx.set_other ?_ ?_ _); rotate_left; (simp <;> omega)))); done) | ((repeat (first | with_reducible exact Ext.refl _ | with_reducible assumption | with_reducible refine Ext.pAlloc ?_ _ | ((with_reducible refine Ext.pSet ?_ ?_ _); rotate_left; (simp <;> omega)) | with_reducible refine Ext.pDrew ?_ | with_reducible refine Ext.pDrewN ?_ _)); done))
    refine wpT_take (i := 0) (v := ?_) rfl (by kernel_rfl) (by decide) (by kernel_rfl) (by kernel_rfl) (by kernel_rfl) (fun _ _ _ h => h) (Or.inl ⟨by rfl, ?_⟩) (by assumption) ?_
    rotate_left
    · intro w9 hSw; (try dsimp only at hSw); go_simp; (first | done | with_reducible rfl)
    (try simp only [List.getElem_toArray, List.getElem_cons_succ, List.getElem_cons_zero, Act.put, List.setIfInBounds_toArray, List.set_cons_zero, List.set_cons_succ])
    refine wpT_take (i := 1) (v := ?_) rfl (by kernel_rfl) (by decide) (by kernel_rfl) (by kernel_rfl) (by kernel_rfl) (fun _ _ _ h => h) (Or.inl ⟨by rfl, ?_⟩) (by assumption) ?_
    rotate_left
    · intro w9 hSw; (try dsimp only at hSw); go_simp; (first | done | with_reducible rfl)
    (try simp only [List.getElem_toArray, List.getElem_cons_succ, List.getElem_cons_zero, Act.put, List.setIfInBounds_toArray, List.set_cons_zero, List.set_cons_succ])
    refine wpT_take (i := 2) (v := ?_) rfl (by kernel_rfl) (by decide) (by kernel_rfl) (by kernel_rfl) (by kernel_rfl) (fun _ _ _ h => h) (Or.inl ⟨by rfl, ?_⟩) (by assumption) ?_
    rotate_left
    · intro w9 hSw; (try dsimp only at hSw); go_simp; (first | done | with_reducible rfl)
    (try simp only [List.getElem_toArray, List.getElem_cons_succ, List.getElem_cons_zero, Act.put, List.setIfInBounds_toArray, List.set_cons_zero, List.set_cons_succ])
    refine wpT_take (i := 3) (v := ?_) rfl (by kernel_rfl) (by decide) (by kernel_rfl) (by kernel_rfl) (by kernel_rfl) (fun _ _ _ h => h) (Or.inl ⟨by rfl, ?_⟩) (by assumption) ?_
    rotate_left
    · intro w9 hSw; (try dsimp only at hSw); go_simp; (first | done | with_reducible rfl)
    (try simp only [List.getElem_toArray, List.getElem_cons_succ, List.getElem_cons_zero, Act.put, List.setIfInBounds_toArray, List.set_cons_zero, List.set_cons_succ])
    refine wpT_take (i := 4) (v := ?_) rfl (by kernel_rfl) (by decide) (by kernel_rfl) (by kernel_rfl) (by kernel_rfl) (fun _ _ _ h => h) (Or.inl ⟨by rfl, ?_⟩) (by assumption) ?_
    rotate_left
    · intro w9 hSw; (try dsimp only at hSw); go_simp; (first | done | with_reducible rfl)
    (try simp only [List.getElem_toArray, List.getElem_cons_succ, List.getElem_cons_zero, Act.put, List.setIfInBounds_toArray, List.set_cons_zero, List.set_cons_succ])
    refine wpT_take (i := 5) (v := ?_) rfl (by kernel_rfl) (by decide) (by kernel_rfl) (by kernel_rfl) (by kernel_rfl) (fun _ _ _ h => h) (Or.inl ⟨by rfl, ?_⟩) (by assumption) ?_
    rotate_left
    · intro w9 hSw; (try dsimp only at hSw); go_simp; (first | done | with_reducible rfl)
    (try simp only [List.getElem_toArray, List.getElem_cons_succ, List.getElem_cons_zero, Act.put, List.setIfInBounds_toArray, List.set_cons_zero, List.set_cons_succ])
    refine wpT_take (i := 6) (v := ?_) rfl (by kernel_rfl) (by decide) (by kernel_rfl) (by kernel_rfl) (by kernel_rfl) (fun _ _ _ h => h) (Or.inl ⟨by rfl, ?_⟩) (by assumption) ?_
    rotate_left
    · intro w9 hSw; (try dsimp only at hSw); go_simp; (first | done | with_reducible rfl)
    (try simp only [List.getElem_toArray, List.getElem_cons_succ, List.getElem_cons_zero, Act.put, List.setIfInBounds_toArray, List.set_cons_zero, List.set_cons_succ])
    refine wpT_take (i := 7) (v := ?_) rfl (by kernel_rfl) (by decide) (by kernel_rfl) (by kernel_rfl) (by kernel_rfl) (fun _ _ _ h => h) (Or.inl ⟨by rfl, ?_⟩) (by assumption) ?_
    rotate_left
    · intro w9 hSw; (try dsimp only at hSw); go_simp; (first | done | with_reducible rfl)
    (try simp only [List.getElem_toArray, List.getElem_cons_succ, List.getElem_cons_zero, Act.put, List.setIfInBounds_toArray, List.set_cons_zero, List.set_cons_succ])
    refine wpT_take (i := 8) (v := ?_) rfl (by kernel_rfl) (by decide) (by kernel_rfl) (by kernel_rfl) (by kernel_rfl) (fun _ _ _ h => h) (Or.inl ⟨by rfl, ?_⟩) (by assumption) ?_
    rotate_left
    · intro w9 hSw; (try dsimp only at hSw); go_simp; (first | done | with_reducible rfl)
    (try simp only [List.getElem_toArray, List.getElem_cons_succ, List.getElem_cons_zero, Act.put, List.setIfInBounds_toArray, List.set_cons_zero, List.set_cons_succ])
    refine wpT_take (i := 9) (v := ?_) rfl (by kernel_rfl) (by decide) (by kernel_rfl) (by kernel_rfl) (by kernel_rfl) (fun _ _ _ h => h) (Or.inl ⟨by rfl, ?_⟩) (by assumption) ?_
    rotate_left
    · intro w9 hSw; (try dsimp only at hSw); go_simp; (first | done | with_reducible rfl)
    (try simp only [List.getElem_toArray, List.getElem_cons_succ, List.getElem_cons_zero, Act.put, List.setIfInBounds_toArray, List.set_cons_zero, List.set_cons_succ])
    refine wpT_take (i := 10) (v := ?_) rfl (by kernel_rfl) (by decide) (by kernel_rfl) (by kernel_rfl) (by kernel_rfl) (fun _ _ _ h => h) (Or.inl ⟨by rfl, ?_⟩) (by assumption) ?_
    rotate_left
    · intro w9 hSw; (try dsimp only at hSw); go_simp; (first | done | with_reducible rfl)
    (try simp only [List.getElem_toArray, List.getElem_cons_succ, List.getElem_cons_zero, Act.put, List.setIfInBounds_toArray, List.set_cons_zero, List.set_cons_succ])
    refine wpT_take (i := 11) (v := ?_) rfl (by kernel_rfl) (by decide) (by kernel_rfl) (by kernel_rfl) (by kernel_rfl) (fun _ _ _ h => h) (Or.inl ⟨by rfl, ?_⟩) (by assumption) ?_
    rotate_left
    · intro w9 hSw; (try dsimp only at hSw); go_simp; (first | done | with_reducible rfl)
    (try simp only [List.getElem_toArray, List.getElem_cons_succ, List.getElem_cons_zero, Act.put, List.setIfInBounds_toArray, List.set_cons_zero, List.set_cons_succ])
    refine wpT_take (i := 12) (v := ?_) rfl (by kernel_rfl) (by decide) (by kernel_rfl) (by kernel_rfl) (by kernel_rfl) (fun _ _ _ h => h) (Or.inl ⟨by rfl, ?_⟩) (by assumption) ?_
    rotate_left
    · intro w9 hSw; (try dsimp only at hSw); go_simp; (first | done | with_reducible rfl)
    (try simp only [List.getElem_toArray, List.getElem_cons_succ, List.getElem_cons_zero, Act.put, List.setIfInBounds_toArray, List.set_cons_zero, List.set_cons_succ])
    refine wpT_take (i := 13) (v := ?_) rfl (by kernel_rfl) (by decide) (by kernel_rfl) (by kernel_rfl) (by kernel_rfl) (fun _ _ _ h => h) (Or.inl ⟨by rfl, ?_⟩) (by assumption) ?_
    rotate_left
    · intro w9 hSw; (try dsimp only at hSw); go_simp; (first | done | with_reducible rfl)
    (try simp only [List.getElem_toArray, List.getElem_cons_succ, List.getElem_cons_zero, Act.put, List.setIfInBounds_toArray, List.set_cons_zero, List.set_cons_succ])
    refine wpT_take (i := 14) (v := ?_) rfl (by kernel_rfl) (by decide) (by kernel_rfl) (by kernel_rfl) (by kernel_rfl) (fun _ _ _ h => h) (Or.inl ⟨by rfl, ?_⟩) (by assumption) ?_
    rotate_left
    · intro w9 hSw; (try dsimp only at hSw); go_simp; (first | done | with_reducible rfl)
    (try simp only [List.getElem_toArray, List.getElem_cons_succ, List.getElem_cons_zero, Act.put, List.setIfInBounds_toArray, List.set_cons_zero, List.set_cons_succ])
    refine wpT_step (i := 15) (by kernel_rfl) (by decide) rfl (fun K hK => ?_)
    go_simp
    refine (copyRow_c _ _ _ (row_zeroV2 _ _ _ z (row.drop cap) (by omega) (by omega)) (by first | (rw [List.length_take]; omega) | simp)).mono ?_
    rintro e w2 ⟨u2, rfl, hE2, hO2⟩
    obtain ⟨ua2, uc2, e2⟩ := u_slice hO2.view
    subst e2
    (try go_wp2_with fail)
    refine hK.out _ _ ?_ (fun hHeld2 => ?_)
    · (try dsimp only); (obtain ⟨s0, s1, s2, s3⟩ := hHeld; exact ⟨cell_ext s0 hE2, cell_ext s1 hE2, Bx.ext s2 hE2, s3.trans hE2⟩)
    clear hK K hHeld
    rename _ => hHeld
    (try simp only [List.getElem_toArray, List.getElem_cons_succ, List.getElem_cons_zero, Act.put, List.setIfInBounds_toArray, List.set_cons_zero, List.set_cons_succ])
    refine wpT_last (by kernel_rfl) (by kernel_rfl) rfl (fun K hK => ?_)
    obtain ⟨e0, e1, e2, e3⟩ := hHeld
    clear c0 c1 f1 n0 e0 e1
    have c1 := e2.cell 1 _ rfl
    have f1 := e2.fr
    have n1 := e2.lt
    go_simp
    refine hK.out _ _ ?_
    clear hK K
    go_wp2
    go_ret2
    have E2 : Ext w w2 := (Ext.drewN w _).trans hE2
    refine ⟨_, rfl, ?_, ?_, ?_⟩
    · rw [show ((cap + z : Nat) : Int) = (cap : Int) + z by omega]
      exact Bx.set21 e2 _
    · refine Cd.own.wide (lo := w.heap.size) (hi := w2.heap.size) ?_ (Nat.le_refl _) (by simp [World.setCell])
      have O2 := Cd.own.pSet (lo := w.heap.size) (a := ⟨cb, 1, none⟩) (Cd.own.wide hO2 (by simp) (Nat.le_refl _)) (Or.inl nlt) (.int .i64 ((cap : Int) + z))
      rw [show ((row.drop cap).take z).length = 0 by simp; omega] at O2
      exact O2
    · exact (E2.chg _ _).trans (Chg.setCell _ _ _ (lo := cb) (hi := cb + 1) (Nat.le_refl _) (Nat.lt_succ_self _))
  · have hcn : ¬ ((cap : Int) = t) := by omega
    have hcn' : t < cap := by omega
    have HP := Lib.hid (row_part (lo := t) (m := z) HV.out (by omega))
    go_enter Try.func60, Try.ntmps60
    go_wp2
    go_quiet (fail)
    go_wp2
    refine wp_region_T (S := fun ω => ω.cell? ⟨cb, 0, none⟩ = some (.slice (some ⟨b, off, none⟩) row.length cap) ∧ ω.cell? ⟨cb, 1, none⟩ = some (.int .i64 t) ∧ Bx ω (cb) [.slice (some ⟨b, off, none⟩) row.length cap, .int .i64 t] ∧ Ext w ω) 16 (by kernel_rfl) ?_ (fun hHeld => ?_) (by decide)
    · (try dsimp only); (refine ⟨?_, ?_, ?_, ?_⟩ <;> first | (simp [go_sem]; done) | (simp [*, go_sem]; done) | ((repeat (first | with_reducible assumption | with_reducible exact Bx.new _ _ _ _ rfl | ((with_reducible refine Bx.new _ _ _ _ ?_); simp; done) | with_reducible refine Bx.pAlloc ?_ _ | with_reducible refine Bx.pDrew ?_ | with_reducible refine Bx.pDrewN ?_ _ | with_reducible apply Bx.set10 | with_reducible apply Bx.set20 | with_reducible apply Bx.set21 | with_reducible apply Bx.set30 | with_reducible apply Bx.set31 | with_reducible apply Bx.set32 | with_reducible apply Bx.set40 | with_reducible apply Bx.set41 | with_reducible apply Bx.set42 | with_reducible apply Bx.set43 | ((with_reducible refine Bx.set_other ?_ ?_ _); rotate_left; (simp <;> omega)))); done) | ((repeat (first | with_reducible exact Ext.refl _ | with_reducible assumption | with_reducible refine Ext.pAlloc ?_ _ | ((with_reducible refine Ext.pSet ?_ ?_ _); rotate_left; (simp <;> omega)) | with_reducible refine Ext.pDrew ?_ | with_reducible refine Ext.pDrewN ?_ _)); done))
    refine wpT_take (i := 0) (v := ?_) rfl (by kernel_rfl) (by decide) (by kernel_rfl) (by kernel_rfl) (by kernel_rfl) (fun _ _ _ h => h) (Or.inl ⟨by rfl, ?_⟩) (by assumption) ?_
    rotate_left
    · intro w9 hSw; (try dsimp only at hSw); go_simp; (first | done | with_reducible rfl)
    (try simp only [List.getElem_toArray, List.getElem_cons_succ, List.getElem_cons_zero, Act.put, List.setIfInBounds_toArray, List.set_cons_zero, List.set_cons_succ])
    refine wpT_take (i := 1) (v := ?_) rfl (by kernel_rfl) (by decide) (by kernel_rfl) (by kernel_rfl) (by kernel_rfl) (fun _ _ _ h => h) (Or.inl ⟨by rfl, ?_⟩) (by assumption) ?_
    rotate_left
    · intro w9 hSw; (try dsimp only at hSw); go_simp; (first | done | with_reducible rfl)
    (try simp only [List.getElem_toArray, List.getElem_cons_succ, List.getElem_cons_zero, Act.put, List.setIfInBounds_toArray, List.set_cons_zero, List.set_cons_succ])
    refine wpT_take (i := 2) (v := ?_) rfl (by kernel_rfl) (by decide) (by kernel_rfl) (by kernel_rfl) (by kernel_rfl) (fun _ _ _ h => h) (Or.inl ⟨by rfl, ?_⟩) (by assumption) ?_
    rotate_left
    · intro w9 hSw; (try dsimp only at hSw); go_simp; (first | done | with_reducible rfl)
    (try simp only [List.getElem_toArray, List.getElem_cons_succ, List.getElem_cons_zero, Act.put, List.setIfInBounds_toArray, List.set_cons_zero, List.set_cons_succ])
    refine wpT_take (i := 3) (v := ?_) rfl (by kernel_rfl) (by decide) (by kernel_rfl) (by kernel_rfl) (by kernel_rfl) (fun _ _ _ h => h) (Or.inl ⟨by rfl, ?_⟩) (by assumption) ?_
    rotate_left
    · intro w9 hSw; (try dsimp only at hSw); go_simp; (first | done | with_reducible rfl)
    (try simp only [List.getElem_toArray, List.getElem_cons_succ, List.getElem_cons_zero, Act.put, List.setIfInBounds_toArray, List.set_cons_zero, List.set_cons_succ])
    refine wpT_take (i := 4) (v := ?_) rfl (by kernel_rfl) (by decide) (by kernel_rfl) (by kernel_rfl) (by kernel_rfl) (fun _ _ _ h => h) (Or.inl ⟨by rfl, ?_⟩) (by assumption) ?_
    rotate_left
    · intro w9 hSw; (try dsimp only at hSw); go_simp; (first | done | with_reducible rfl)
    (try simp only [List.getElem_toArray, List.getElem_cons_succ, List.getElem_cons_zero, Act.put, List.setIfInBounds_toArray, List.set_cons_zero, List.set_cons_succ])
    refine wpT_take (i := 5) (v := ?_) rfl (by kernel_rfl) (by decide) (by kernel_rfl) (by kernel_rfl) (by kernel_rfl) (fun _ _ _ h => h) (Or.inl ⟨by rfl, ?_⟩) (by assumption) ?_
    rotate_left
    · intro w9 hSw; (try dsimp only at hSw); go_simp; (first | done | with_reducible rfl)
    (try simp only [List.getElem_toArray, List.getElem_cons_succ, List.getElem_cons_zero, Act.put, List.setIfInBounds_toArray, List.set_cons_zero, List.set_cons_succ])
    refine wpT_take (i := 6) (v := ?_) rfl (by kernel_rfl) (by decide) (by kernel_rfl) (by kernel_rfl) (by kernel_rfl) (fun _ _ _ h => h) (Or.inl ⟨by rfl, ?_⟩) (by assumption) ?_
    rotate_left
    · intro w9 hSw; (try dsimp only at hSw); go_simp; (first | done | with_reducible rfl)
    (try simp only [List.getElem_toArray, List.getElem_cons_succ, List.getElem_cons_zero, Act.put, List.setIfInBounds_toArray, List.set_cons_zero, List.set_cons_succ])
    refine wpT_take (i := 7) (v := ?_) rfl (by kernel_rfl) (by decide) (by kernel_rfl) (by kernel_rfl) (by kernel_rfl) (fun _ _ _ h => h) (Or.inl ⟨by rfl, ?_⟩) (by assumption) ?_
    rotate_left
    · intro w9 hSw; (try dsimp only at hSw); go_simp; (first | done | with_reducible rfl)
    (try simp only [List.getElem_toArray, List.getElem_cons_succ, List.getElem_cons_zero, Act.put, List.setIfInBounds_toArray, List.set_cons_zero, List.set_cons_succ])
    refine wpT_take (i := 8) (v := ?_) rfl (by kernel_rfl) (by decide) (by kernel_rfl) (by kernel_rfl) (by kernel_rfl) (fun _ _ _ h => h) (Or.inl ⟨by rfl, ?_⟩) (by assumption) ?_
    rotate_left
    · intro w9 hSw; (try dsimp only at hSw); go_simp; (first | done | with_reducible rfl)
    (try simp only [List.getElem_toArray, List.getElem_cons_succ, List.getElem_cons_zero, Act.put, List.setIfInBounds_toArray, List.set_cons_zero, List.set_cons_succ])
    refine wpT_take (i := 9) (v := ?_) rfl (by kernel_rfl) (by decide) (by kernel_rfl) (by kernel_rfl) (by kernel_rfl) (fun _ _ _ h => h) (Or.inl ⟨by rfl, ?_⟩) (by assumption) ?_
    rotate_left
    · intro w9 hSw; (try dsimp only at hSw); go_simp; (first | done | with_reducible rfl)
    (try simp only [List.getElem_toArray, List.getElem_cons_succ, List.getElem_cons_zero, Act.put, List.setIfInBounds_toArray, List.set_cons_zero, List.set_cons_succ])
    refine wpT_take (i := 10) (v := ?_) rfl (by kernel_rfl) (by decide) (by kernel_rfl) (by kernel_rfl) (by kernel_rfl) (fun _ _ _ h => h) (Or.inl ⟨by rfl, ?_⟩) (by assumption) ?_
    rotate_left
    · intro w9 hSw; (try dsimp only at hSw); go_simp; (first | done | with_reducible rfl)
    (try simp only [List.getElem_toArray, List.getElem_cons_succ, List.getElem_cons_zero, Act.put, List.setIfInBounds_toArray, List.set_cons_zero, List.set_cons_succ])
    refine wpT_take (i := 11) (v := ?_) rfl (by kernel_rfl) (by decide) (by kernel_rfl) (by kernel_rfl) (by kernel_rfl) (fun _ _ _ h => h) (Or.inl ⟨by rfl, ?_⟩) (by assumption) ?_
    rotate_left
    · intro w9 hSw; (try dsimp only at hSw); go_simp; (first | done | with_reducible rfl)
    (try simp only [List.getElem_toArray, List.getElem_cons_succ, List.getElem_cons_zero, Act.put, List.setIfInBounds_toArray, List.set_cons_zero, List.set_cons_succ])
    refine wpT_take (i := 12) (v := ?_) rfl (by kernel_rfl) (by decide) (by kernel_rfl) (by kernel_rfl) (by kernel_rfl) (fun _ _ _ h => h) (Or.inl ⟨by rfl, ?_⟩) (by assumption) ?_
    rotate_left
    · intro w9 hSw; (try dsimp only at hSw); go_simp; (first | done | with_reducible rfl)
    (try simp only [List.getElem_toArray, List.getElem_cons_succ, List.getElem_cons_zero, Act.put, List.setIfInBounds_toArray, List.set_cons_zero, List.set_cons_succ])
    refine wpT_take (i := 13) (v := ?_) rfl (by kernel_rfl) (by decide) (by kernel_rfl) (by kernel_rfl) (by kernel_rfl) (fun _ _ _ h => h) (Or.inl ⟨by rfl, ?_⟩) (by assumption) ?_
    rotate_left
    · intro w9 hSw; (try dsimp only at hSw); go_simp; (first | done | with_reducible rfl)
    (try simp only [List.getElem_toArray, List.getElem_cons_succ, List.getElem_cons_zero, Act.put, List.setIfInBounds_toArray, List.set_cons_zero, List.set_cons_succ])
    refine wpT_take (i := 14) (v := ?_) rfl (by kernel_rfl) (by decide) (by kernel_rfl) (by kernel_rfl) (by kernel_rfl) (fun _ _ _ h => h) (Or.inl ⟨by rfl, ?_⟩) (by assumption) ?_
    rotate_left
    · intro w9 hSw; (try dsimp only at hSw); go_simp; (first | done | with_reducible rfl)
    (try simp only [List.getElem_toArray, List.getElem_cons_succ, List.getElem_cons_zero, Act.put, List.setIfInBounds_toArray, List.set_cons_zero, List.set_cons_succ])
    refine wpT_step (i := 15) (by kernel_rfl) (by decide) rfl (fun K hK => ?_)
    go_simp
    refine (copyRow_c _ _ _ (rowC.vext HP.out (Ext.drewN _ _)) (by first | (rw [List.length_take]; omega) | simp)).mono ?_
    rintro e w2 ⟨u2, rfl, hE2, hO2⟩
    obtain ⟨ua2, uc2, e2⟩ := u_slice hO2.view
    subst e2
    (try go_wp2_with fail)
    refine hK.out _ _ ?_ (fun hHeld2 => ?_)
    · (try dsimp only); (obtain ⟨s0, s1, s2, s3⟩ := hHeld; exact ⟨cell_ext s0 hE2, cell_ext s1 hE2, Bx.ext s2 hE2, s3.trans hE2⟩)
    clear hK K hHeld
    rename _ => hHeld
    (try simp only [List.getElem_toArray, List.getElem_cons_succ, List.getElem_cons_zero, Act.put, List.setIfInBounds_toArray, List.set_cons_zero, List.set_cons_succ])
    refine wpT_last (by kernel_rfl) (by kernel_rfl) rfl (fun K hK => ?_)
    obtain ⟨e0, e1, e2, e3⟩ := hHeld
    clear c0 c1 f1 n0 e0 e1
    have c1 := e2.cell 1 _ rfl
    have f1 := e2.fr
    have n1 := e2.lt
    go_simp
    refine hK.out _ _ ?_
    clear hK K
    go_wp2
    go_ret2
    have E2 : Ext w w2 := (Ext.drewN w _).trans hE2
    refine ⟨_, rfl, ?_, ?_, ?_⟩
    · rw [show ((t + z : Nat) : Int) = (t : Int) + z by omega]
      exact Bx.set21 e2 _
    · refine Cd.own.wide (lo := w.heap.size) (hi := w2.heap.size) ?_ (Nat.le_refl _) (by simp [World.setCell])
      have O2 := Cd.own.pSet (lo := w.heap.size) (a := ⟨cb, 1, none⟩) (Cd.own.wide hO2 (by simp) (Nat.le_refl _)) (Or.inl nlt) (.int .i64 ((t : Int) + z))
      rw [show ((row.drop t).take z).length = min z (row.length - t) by simp] at O2
      exact O2
    · exact (E2.chg _ _).trans (Chg.setCell _ _ _ (lo := cb) (hi := cb + 1) (Nat.le_refl _) (Nat.lt_succ_self _))

set_option maxHeartbeats 800000 in
theorem take_n (cb t b off cap : Nat) (row : List Int) (w : World) (hB : Bx w cb [.slice (some ⟨b, off, none⟩) row.length cap, .int .i64 (t : Int)]) (z : Nat) (ht : t ≤ row.length) (hz : row.length < t + z) (hl : row.length ≤ 48) :
    Calls Try.prog 60 #[.pointer (some ⟨cb, 0, none⟩), .int .i64 (z : Int)] w fun e w' => e = .returned (.tuple #[.slice none 0 0, .bool false]) ∧ Ext w w' := by
  have c0 := hB.cell 0 _ rfl
  have c1 := hB.cell 1 _ rfl
  have f1 := hB.fr
  have hd1 : decide ((z : Int) < 0) = false := by rw [decide_eq_false_iff_not]; omega
  have hd2 : decide ((row.length : Int) - t < z) = true := by rw [decide_eq_true_iff]; omega
  have hw2 : IntKind.i64.wrap ((row.length : Int) - t) = row.length - t := IntWalk.i64_in _ (by omega)
  go_enter Try.func60, Try.ntmps60
  go_wp2
  go_quiet (fail)
  go_wp2
  go_ret2
  exact ⟨rfl, Ext.drewN _ _⟩

end Go.Proofs.Ytdkhghnhggedbaa
