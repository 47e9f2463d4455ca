/- Generators: many numbers, and shuffling. -/
import Derived.Test.YtdkhghnhggedbaaDice
set_option linter.unusedVariables false
set_option linter.unusedSimpArgs false
namespace Go.Proofs.Ytdkhghnhggedbaa
open Go.RowKit Go.Sl

/-- The generator's state behind k draws. -/
def stN (s : Int) : Nat → Int
  | 0 => s
  | k + 1 => stepD (stN s k)
theorem stN_bd {s : Int} (h : 0 ≤ s ∧ s ≤ 999999936) (k : Nat) : 0 ≤ stN s k ∧ stN s k ≤ 999999936 := by
  cases k with
  | zero => exact h
  | succ k => exact stepD_bd _
theorem stN_ok {s : Int} (h : diceOk s = true) (k : Nat) : diceOk (stN s k) = true := by
  cases k with
  | zero => exact h
  | succ k => exact stepD_ok _
def drawsL (s n : Int) (k : Nat) : List Int := (List.range k).map fun i => stN s (i + 1) % n
theorem drawsL_len (s n : Int) (k : Nat) : (drawsL s n k).length = k := by simp [drawsL]
theorem drawsL_snoc (s n : Int) (k : Nat) : drawsL s n (k + 1) = drawsL s n k ++ [stepD (stN s k) % n] := by simp [drawsL, List.range_succ, stN]
def spread (s m n : Int) : Int × List Int := if diceOk s then (if inB m 0 64 && inB n 1 1000000000 then (stN s m.toNat, drawsL s n m.toNat) else (s, [])) else (0, [])

theorem spread_len (s m n : Int) : (spread s m n).2.length ≤ 64 := by
  unfold spread
  split
  · split
    · rename_i h
      simp only [Bool.and_eq_true] at h
      have := inB_bd h.1
      simp only [drawsL_len]; omega
    · simp
  · simp

theorem draw_o (n s : Int) (b : Nat) (w : World) (hc : w.cell? ⟨b, 0, none⟩ = some (.int .i64 s)) (hf : w.frozen? ⟨b, 0, none⟩ = false) (h1 : 0 ≤ s) (h2 : s ≤ 999999936) (hn : 1 ≤ n) :
    Calls Try.prog 71 #[.int .i64 n, .pointer (some ⟨b, 0, none⟩)] w fun e w' => e = .returned (.int .i64 (stepD s % n)) ∧ Chg b (b + 1) w w' ∧ w'.heap.size = w.heap.size ∧ w'.cell? ⟨b, 0, none⟩ = some (.int .i64 (stepD s)) ∧ w'.frozen? ⟨b, 0, none⟩ = false :=
  (draw_c n s b w hc hf h1 h2 hn).mono fun e w' ⟨he, hw⟩ => by
    subst hw
    exact ⟨he, Chg.setCell w _ _ (Nat.le_refl _) (Nat.lt_succ_self _), by simp [World.setCell], World.cell?_setCell_same _ _ _ hc, by simpa using hf⟩

theorem frozen_ext {w w' : World} {b o : Nat} {v : Value} (hc : w.cell? ⟨b, o, none⟩ = some v) (h : w.frozen? ⟨b, o, none⟩ = false) (he : Ext w w') : w'.frozen? ⟨b, o, none⟩ = false := by
  rw [he.frozen (World.block_lt_of_cell? w _ hc)]; exact h
theorem frozen_app {w w' : World} {a a' : Option Addr} {b o : Nat} {v : Value} (hc : w.cell? ⟨b, o, none⟩ = some v) (h : w.frozen? ⟨b, o, none⟩ = false) (he : AppW w w' a a') (hn : b ∉ ablk a) : w'.frozen? ⟨b, o, none⟩ = false := by
  rw [World.frozen?_of_block (w := w) (he.block b (World.block_lt_of_cell? w _ hc) hn)]; exact h
theorem cell_app {w w' : World} {a a' : Option Addr} {b o : Nat} {v : Value} (hc : w.cell? ⟨b, o, none⟩ = some v) (he : AppW w w' a a') (hn : b ∉ ablk a) : w'.cell? ⟨b, o, none⟩ = some v := by
  rw [World.cell?_of_block (w := w) (he.block b (World.block_lt_of_cell? w _ hc) hn)]; exact hc
theorem ISl.chg {w w' : World} {a : Option Addr} {cap lo hi : Nat} {l : List Int} (h : ISl w a cap l) (hc : Chg lo hi w w') (hd : ∀ b ∈ ablk a, ¬ (lo ≤ b ∧ b < hi)) : ISl w' a cap l :=
  SlAt.frame h (fun b hb => hc.block b (SlAt.lt h b hb) (hd b hb))

set_option maxHeartbeats 1600000 in
theorem implSpread_c (s m n : Int) (w : World) : Calls Try.prog 14 #[dice s, .int .i64 m, .int .i64 n] w fun e w' => ∃ v, e = .returned (.tuple #[dice (spread s m n).1, v]) ∧ Ext w w' ∧ rowC.own w.heap.size w'.heap.size w' [v] (spread s m n).2 := by
  cases hd : diceOk s
  · have hr : spread s m n = (0, []) := by simp [spread, hd]
    rw [hr]; have Hr := Lib.hid hr; clear hr
    go_enter Try.func14, Try.ntmps14
    go_wp2_with (go_at_call 36; refine (implDiceOk_c _ _).mono ?_; rintro e w' ⟨rfl, hE⟩; obtain ⟨hc, hf, hz⟩ := hE.rules)
    refine bodyPost_ret (v := .tuple #[dice 0, .slice none 0 0]) (by simp [results, Try.results14, go_sem, hc]) rfl ⟨_, rfl, ?_, row_nil _ _ _⟩
    repeat (first | with_reducible exact Ext.refl _ | with_reducible assumption | with_reducible refine Ext.pAlloc ?_ _ | ((with_reducible refine Ext.pSet ?_ ?_ _); rotate_left; (simp <;> omega)) | with_reducible refine Ext.pDrew ?_ | with_reducible refine Ext.pDrewN ?_ _ | with_reducible refine Ext.trans ?_ (by with_reducible assumption))
  · cases hm : inB m 0 64
    all_goals cases hn : inB n 1 1000000000
    case true.true =>
      have hr : spread s m n = (stN s m.toNat, drawsL s n m.toNat) := by simp [spread, hd, hm, hn]
      rw [hr]; have Hr := Lib.hid hr; clear hr
      obtain ⟨hm1, hm2⟩ := inB_bd hm
      obtain ⟨hn1, hn2⟩ := inB_bd hn
      have hsb := diceOk_bd hd
      obtain ⟨M, rfl⟩ := Int.eq_ofNat_of_zero_le hm1
      rw [Int.toNat_natCast]
      have Hm := Lib.hid hm
      go_enter Try.func14, Try.ntmps14
      go_wp2_with (first
        | (go_at_call 36; refine (implDiceOk_c _ _).mono ?_; rintro e w1 ⟨rfl, hE1⟩; obtain ⟨hc1, hf1, hz1⟩ := hE1.rules)
        | (go_at_call 50; refine (between_c _ _ _ _).mono ?_; rintro e w' ⟨rfl, rfl⟩)
        | (go_at_call 51; refine (drawer_c _ _).mono ?_; rintro e w2 ⟨b, rfl, hE2, hb5, hb6, hcb, hfb⟩))
      have hB := hc1 (w.heap.size + 1) 0 (by simp)
      have hFz := hf1 (w.heap.size + 1) 0 (by simp)
      simp [go_sem] at hB hFz
      have hW : Ext w w1 := Ext.trans (by repeat (first | with_reducible exact Ext.refl _ | with_reducible assumption | with_reducible refine Ext.pAlloc ?_ _ | ((with_reducible refine Ext.pSet ?_ ?_ _); rotate_left; (simp <;> omega)) | with_reducible refine Ext.pDrew ?_ | with_reducible refine Ext.pDrewN ?_ _ | with_reducible refine Ext.trans ?_ (by with_reducible assumption))) hE1
      have hz1' : w.heap.size + 2 ≤ w1.heap.size := by simp at hz1; omega
      clear hc1 hf1 hE1 hz1
      go_loopw [1, 10] (fun v1 v10 wr => ∃ k a cap, k ≤ M ∧ v1 = .int .i64 ((M : Int) - (k : Nat)) ∧ v10 = .slice a k cap ∧ k ≤ cap ∧ cap ≤ 9223372036854775807 ∧ ISl wr a cap (drawsL s n k) ∧ Ext w1 wr ∧ w2.heap.size ≤ wr.heap.size ∧
          wr.cell? ⟨b, 0, none⟩ = some (.int .i64 (stN s k)) ∧ wr.frozen? ⟨b, 0, none⟩ = false ∧ Hid (∀ b' ∈ ablk a, w2.heap.size ≤ b')) (fun v1 _ _ => (intOf v1).toNat)
      case atStart =>
        exact ⟨0, _, 0, Nat.zero_le _, by go_num, rfl, Nat.le_refl _, by omega, ISl.lit _ [] _ _ rfl, hE2.trans (Ext.alloc _ _), by simp, cell_ext hcb (Ext.alloc _ _), frozen_ext hcb hfb (Ext.alloc _ _), by simp [Hid, ablk]⟩
      case round =>
        obtain ⟨k, a, cap, hk, rfl, rfl, hkc, hcap, hI, hE, hwz, hcell, hfr, hab⟩ := hrel
        have HI := Lib.hid hI
        clear hI
        obtain ⟨hs1, hs2⟩ := stN_bd hsb k
        by_cases hlt : k < M
        · go_wp2_with fail
          refine (draw_o _ (stN s k) b _ hcell hfr hs1 hs2 hn1).mono ?_
          rintro e w3 ⟨rfl, hC, hsz, hcell3, hfr3⟩
          have hI3 := Lib.hid (ISl.chg HI.out hC (fun b' h' => by have := hab.out b' h'; omega))
          have hE3 := Chg.ext hE hC hb5
          clear hcell hfr hE HI
          have Hsz := Lib.hid hsz; clear hsz
          go_wp2_with (at_builtin; refine wpList_append_ints _ rfl _ _ _ rfl 2 Try.underlying25 Try.infoI _ _ _ (drawsL s n k) rfl (drawsL_len _ _ _) (hI3.out.ext (Ext.alloc _ _)) hkc hcap _ _ _ [stepD (stN s k) % n] rfl rfl (CellsAt.lit _ _ _) (by omega) ?_)
          intro a2 cap2 w4 hI4 hle4 hm4 hA4
          have HI4 := Lib.hid hI4
          clear hI4
          go_wp2
          go_roundw
          case rel =>
            refine ⟨k + 1, a2, cap2, by omega, valI (by omega), rfl, hle4, hm4, by rw [drawsL_snoc]; exact HI4.out, hA4.ext (hE3.trans (Ext.alloc _ _)) (fun b' h' => by have := hab.out b' h'; omega), ?_, ?_, ?_, ?_⟩
            · have := hA4.size; have := Hsz.out; simp at *; omega
            · exact cell_app (cell_ext hcell3 (Ext.alloc _ _)) hA4 (fun h' => by have := hab.out b h'; omega)
            · exact frozen_app (cell_ext hcell3 (Ext.alloc _ _)) (frozen_ext hcell3 hfr3 (Ext.alloc _ _)) hA4 (fun h' => by have := hab.out b h'; omega)
            · intro b' h'
              rcases hA4.mem h' with h' | ⟨h', _⟩
              · exact hab.out b' h'
              · have := Hsz.out; simp at h'; omega
          case measure => simp [intOf]; omega
        · have hkM : k = M := by omega
          subst hkM
          go_wp2_with fail
          refine (now_c (stN s k) b _ hcell).mono ?_
          rintro e w5 ⟨rfl, hE5⟩
          have hB5 := cell_ext hB (hE.trans hE5)
          have hF5 := frozen_ext hB hFz (hE.trans hE5)
          have hI5 := Lib.hid (HI.out.ext hE5)
          have hX := Lib.hid (hW.trans (hE.trans hE5))
          have hz5 := hE5.size
          have hz6 := hE.size
          clear hcell hfr hE HI hE5 hB hFz hcb hfb hE2
          go_wp2
          refine bodyPost_ret (v := .tuple #[dice (stN s k), .slice a k cap]) (by simp [results, Try.results14, go_sem, hB5]) rfl ⟨_, rfl, ?_, ?_⟩
          · exact Ext.pSet hX.out (by simp) _
          · refine Cd.own.wide (lo := w2.heap.size) (hi := w5.heap.size) (own_set ?_ (by simp; omega) _) (by omega) (by simp)
            exact row_own.2 ⟨a, cap, by rw [drawsL_len], by rw [drawsL_len]; exact hkc, hcap, hI5.out, fun b' h' => ⟨hab.out b' h', SlAt.lt hI5.out b' h'⟩⟩
    all_goals
      have hr : spread s m n = (s, []) := by simp [spread, hd, hm, hn]
      rw [hr]; have Hr := Lib.hid hr; clear hr
      go_enter Try.func14, Try.ntmps14
      go_wp2_with (first
        | (go_at_call 36; refine (implDiceOk_c _ _).mono ?_; rintro e w' ⟨rfl, hE⟩; obtain ⟨hc, hf, hz⟩ := hE.rules)
        | (go_at_call 50; refine (between_c _ _ _ _).mono ?_; rintro e w' ⟨rfl, rfl⟩))
      refine bodyPost_ret (v := .tuple #[dice s, .slice none 0 0]) (by simp [results, Try.results14, go_sem, hc]) rfl ⟨_, rfl, ?_, row_nil _ _ _⟩
      repeat (first | with_reducible exact Ext.refl _ | with_reducible assumption | with_reducible refine Ext.pAlloc ?_ _ | ((with_reducible refine Ext.pSet ?_ ?_ _); rotate_left; (simp <;> omega)) | with_reducible refine Ext.pDrew ?_ | with_reducible refine Ext.pDrewN ?_ _ | with_reducible refine Ext.trans ?_ (by with_reducible assumption))

set_option maxHeartbeats 1600000 in
theorem specSpread_c (s m n : Int) (w : World) : Calls Try.prog 12 #[dice s, .int .i64 m, .int .i64 n] w fun e w' => ∃ v, e = .returned (.tuple #[dice (spread s m n).1, v]) ∧ Ext w w' ∧ rowC.own w.heap.size w'.heap.size w' [v] (spread s m n).2 := by
  cases hd : diceOk s
  · have hr : spread s m n = (0, []) := by simp [spread, hd]
    rw [hr]; have Hr := Lib.hid hr; clear hr
    go_enter Try.func12, Try.ntmps12
    go_wp2_with (go_at_call 35; refine (specDiceOk_c _ _).mono ?_; rintro e w' ⟨rfl, hE⟩; obtain ⟨hc, hf, hz⟩ := hE.rules)
    refine bodyPost_ret (v := .tuple #[dice 0, .slice (some ⟨w.heap.size + 2, 0, none⟩) 0 0]) (by simp [results, Try.results12, go_sem, hc]) rfl ⟨_, rfl, ?_, ?_⟩
    · repeat (first | with_reducible exact Ext.refl _ | with_reducible assumption | with_reducible refine Ext.pAlloc ?_ _ | ((with_reducible refine Ext.pSet ?_ ?_ _); rotate_left; (simp <;> omega)) | with_reducible refine Ext.pDrew ?_ | with_reducible refine Ext.pDrewN ?_ _ | with_reducible refine Ext.trans ?_ (by with_reducible assumption))
    · refine Cd.own.wide (lo := w.heap.size + 2) (hi := w'.heap.size) (own_set ?_ (by simp) _) (by omega) (by simp)
      exact row_own.2 ⟨_, 0, rfl, Nat.le_refl _, by omega, ISl.ext (ISl.litAt _ _ _ (by simp)) hE, by simp [ablk]; simp at hz; omega⟩
  · cases hm : inB m 0 64
    all_goals cases hn : inB n 1 1000000000
    case true.true =>
      have hr : spread s m n = (stN s m.toNat, drawsL s n m.toNat) := by simp [spread, hd, hm, hn]
      rw [hr]; have Hr := Lib.hid hr; clear hr
      obtain ⟨hm1, hm2⟩ := inB_bd hm
      obtain ⟨hn1, hn2⟩ := inB_bd hn
      obtain ⟨M, rfl⟩ := Int.eq_ofNat_of_zero_le hm1
      rw [Int.toNat_natCast]
      have Hm := Lib.hid hm
      have Hd := Lib.hid hd
      have Hn := Lib.hid hn
      go_enter Try.func12, Try.ntmps12
      go_wp2_with (first
        | (go_at_call 35; refine (specDiceOk_c _ _).mono ?_; rintro e w1 ⟨rfl, hE1⟩; obtain ⟨hc1, hf1, hz1⟩ := hE1.rules)
        | (go_at_call 48; refine (l1In_c _ _ _ _).mono ?_; rintro e w' ⟨rfl, rfl⟩))
      have hB := hc1 (w.heap.size + 1) 0 (by simp <;> omega)
      have hFz := hf1 (w.heap.size + 1) 0 (by simp <;> omega)
      have hD := hc1 w.heap.size 0 (by simp <;> omega)
      have hFd := hf1 w.heap.size 0 (by simp <;> omega)
      simp [go_sem] at hB hFz hD hFd
      have hW : Ext w w1 := Ext.trans (by repeat (first | with_reducible exact Ext.refl _ | with_reducible assumption | with_reducible refine Ext.pAlloc ?_ _ | ((with_reducible refine Ext.pSet ?_ ?_ _); rotate_left; (simp <;> omega)) | with_reducible refine Ext.pDrew ?_ | with_reducible refine Ext.pDrewN ?_ _ | with_reducible refine Ext.trans ?_ (by with_reducible assumption))) hE1
      have hz1' : w.heap.size + 3 ≤ w1.heap.size := by simp at hz1; omega
      have hI1 : ISl w1 (some ⟨w.heap.size + 2, 0, none⟩) 0 [] := ISl.ext (ISl.litAt _ _ _ (by simp)) hE1
      clear hc1 hf1 hE1 hz1 hm1
      go_loopw [8] (fun v8 wr => ∃ k a cap, k ≤ M ∧ v8 = .slice a k cap ∧ k ≤ cap ∧ cap ≤ 9223372036854775807 ∧ ISl wr a cap (drawsL s n k) ∧ Ext w wr ∧ w.heap.size + 3 ≤ wr.heap.size ∧
          wr.cell? ⟨w.heap.size, 0, none⟩ = some (.int .i64 (stN s k)) ∧ wr.frozen? ⟨w.heap.size, 0, none⟩ = false ∧
          wr.cell? ⟨w.heap.size + 1, 0, none⟩ = some (.int .i64 0) ∧ wr.frozen? ⟨w.heap.size + 1, 0, none⟩ = false ∧ Hid (∀ b' ∈ ablk a, w.heap.size + 2 ≤ b')) (fun v8 _ => M - (match v8 with | .slice _ k _ => k | _ => 0))
      case atStart =>
        exact ⟨0, _, 0, Nat.zero_le _, rfl, Nat.le_refl _, by omega, hI1, hW, hz1', hD, hFd, hB, hFz, by simp [Hid, ablk]⟩
      case round =>
        clear hB hFz hD hFd hW hz1' hI1
        obtain ⟨k, a, cap, hk, rfl, hkc, hcap, hI, hE, hwz, hcell, hfr, hB, hFz, hab⟩ := hrel
        have HI := Lib.hid hI
        clear hI
        by_cases hlt : k < M
        · have hu := Lib.hid (show under (stN s k) n = (stN s (k + 1), stN s (k + 1) % n) by simp [under, stN_ok Hd.out k, Hn.out, stN])
          go_wp2_with fail
          refine (specUnder_c _ _ _).mono ?_
          rw [hu.out]
          rintro e w3 ⟨rfl, hE3⟩
          have hI3 := Lib.hid (HI.out.ext hE3)
          have hcell3 := cell_ext hcell hE3
          have hfr3 := frozen_ext hcell hfr hE3
          have hB3 := cell_ext hB hE3
          have hFz3 := frozen_ext hB hFz hE3
          have hX := hE.trans hE3
          have hz3 := hE3.size
          have hl1 : w.heap.size < w3.heap.size := by omega
          clear hcell hfr hE HI hB hFz hE3
          have hI4 := Lib.hid (ISl.chg hI3.out (Chg.setCell w3 ⟨w.heap.size, 0, none⟩ (.int .i64 (stN s (k + 1))) (lo := w.heap.size) (hi := w.heap.size + 1) (Nat.le_refl _) (Nat.lt_succ_self _)) (fun b' h' => by have := hab.out b' h'; omega))
          have hX4 := hX.pSet (a := ⟨w.heap.size, 0, none⟩) (Nat.le_refl _) (.int .i64 (stN s (k + 1)))
          have hc4 := World.cell?_setCell_same w3 ⟨w.heap.size, 0, none⟩ (.int .i64 (stN s (k + 1))) hcell3
          have hb4 : (w3.setCell ⟨w.heap.size, 0, none⟩ (.int .i64 (stN s (k + 1)))).cell? ⟨w.heap.size + 1, 0, none⟩ = some (.int .i64 0) := by
            rw [World.cell?_setCell_other _ _ _ _ (by simp)]; exact hB3
          have HX4 := Lib.hid hX4
          clear hX4 hX
          have hcb4 := Lib.hid (And.intro hc4 hb4)
          clear hc4 hb4
          go_wp2_with (at_builtin; (refine wpList_append_ints _ rfl _ _ _ rfl 2 Try.underlying25 Try.infoI _ _ _ (drawsL s n k) rfl (drawsL_len _ _ _) ((hI4.out.ext (Ext.alloc _ _)).ext (Ext.alloc _ _)) hkc hcap _ _ _ [stN s (k + 1) % n] rfl rfl (CellsAt.litAt _ _ _ _ (by simp)) (by omega) ?_))
          intro a2 cap2 w5 hI5 hle5 hm5 hA5
          have HI5 := Lib.hid hI5
          clear hI5
          have hX5 := Lib.hid (hA5.ext ((HX4.out.trans (Ext.alloc _ _)).trans (Ext.alloc _ _)) (fun b' h' => by have := hab.out b' h'; omega))
          have hc5 := cell_app (cell_ext (cell_ext hcb4.out.1 (Ext.alloc _ _)) (Ext.alloc _ _)) hA5 (fun h' => by have := hab.out _ h'; omega)
          have hb5 := cell_app (cell_ext (cell_ext hcb4.out.2 (Ext.alloc _ _)) (Ext.alloc _ _)) hA5 (fun h' => by have := hab.out _ h'; omega)
          have hf5 := frozen_app (cell_ext (cell_ext hcb4.out.1 (Ext.alloc _ _)) (Ext.alloc _ _)) (frozen_ext (cell_ext hcb4.out.1 (Ext.alloc _ _)) (frozen_ext hcb4.out.1 (by simpa using hfr3) (Ext.alloc _ _)) (Ext.alloc _ _)) hA5 (fun h' => by have := hab.out _ h'; omega)
          have hg5 := frozen_app (cell_ext (cell_ext hcb4.out.2 (Ext.alloc _ _)) (Ext.alloc _ _)) (frozen_ext (cell_ext hcb4.out.2 (Ext.alloc _ _)) (frozen_ext hcb4.out.2 (by simpa using hFz3) (Ext.alloc _ _)) (Ext.alloc _ _)) hA5 (fun h' => by have := hab.out _ h'; omega)
          have hs5 : w.heap.size + 3 ≤ w5.heap.size := by have := hA5.size; simp at this; omega
          have hab5 : Hid (∀ b' ∈ ablk a2, w.heap.size + 2 ≤ b') := by
            intro b' h'
            rcases hA5.mem h' with h' | ⟨h', _⟩
            · exact hab.out b' h'
            · simp at h'; omega
          clear hA5 hcell3 hfr3 hB3 hFz3
          go_wp2
          go_roundw
          case rel => exact ⟨k + 1, a2, cap2, by omega, rfl, hle5, hm5, by rw [drawsL_snoc]; exact HI5.out, hX5.out, hs5, hc5, hf5, hb5, hg5, hab5⟩
          case measure => simp; omega
        · have hkM : k = M := by omega
          subst hkM
          have hF := Lib.hid hE
          have hc5 := World.cell?_setCell_same wr ⟨w.heap.size + 1, 0, none⟩ (.int .i64 (stN s k)) hB
          clear hE
          go_wp2
          refine bodyPost_ret (v := .tuple #[dice (stN s k), .slice a k cap]) (by simp [results, Try.results12, go_sem, hc5]) rfl ⟨_, rfl, ?_, ?_⟩
          · exact Ext.pSet hF.out (by simp) _
          · refine Cd.own.wide (lo := w.heap.size + 2) (hi := wr.heap.size) (own_set ?_ (by simp) _) (by omega) (by simp)
            exact row_own.2 ⟨a, cap, by rw [drawsL_len], by rw [drawsL_len]; exact hkc, hcap, HI.out, fun b' h' => ⟨hab.out b' h', SlAt.lt HI.out b' h'⟩⟩
    all_goals
      have hr : spread s m n = (s, []) := by simp [spread, hd, hm, hn]
      rw [hr]; have Hr := Lib.hid hr; clear hr
      go_enter Try.func12, Try.ntmps12
      go_wp2_with (first
        | (go_at_call 35; refine (specDiceOk_c _ _).mono ?_; rintro e w' ⟨rfl, hE⟩; obtain ⟨hc, hf, hz⟩ := hE.rules)
        | (go_at_call 48; refine (l1In_c _ _ _ _).mono ?_; rintro e w' ⟨rfl, rfl⟩))
      refine bodyPost_ret (v := .tuple #[dice s, .slice (some ⟨w.heap.size + 2, 0, none⟩) 0 0]) (by simp [results, Try.results12, go_sem, hc]) rfl ⟨_, rfl, ?_, ?_⟩
      · repeat (first | with_reducible exact Ext.refl _ | with_reducible assumption | with_reducible refine Ext.pAlloc ?_ _ | ((with_reducible refine Ext.pSet ?_ ?_ _); rotate_left; (simp <;> omega)) | with_reducible refine Ext.pDrew ?_ | with_reducible refine Ext.pDrewN ?_ _ | with_reducible refine Ext.trans ?_ (by with_reducible assumption))
      · refine Cd.own.wide (lo := w.heap.size + 2) (hi := w'.heap.size) (own_set ?_ (by simp) _) (by omega) (by simp)
        exact row_own.2 ⟨_, 0, rfl, Nat.le_refl _, by omega, ISl.ext (ISl.litAt _ _ _ (by simp)) hE, by simp [ablk]; simp at hz; omega⟩

end Go.Proofs.Ytdkhghnhggedbaa
