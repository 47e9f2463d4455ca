/- Generators: shuffled lists. -/
import Derived.Test.YtdkhghnhggedbaaDice2
import Derived.Test.YtdkhghnhggedbaaApd
import Derived.BigRegion
set_option linter.unusedVariables false
set_option linter.unusedSimpArgs false
namespace Go.Proofs.Ytdkhghnhggedbaa
open Go.RowKit Go.Sl

/-- Two numbers of a list change places. -/
def swapL (l : List Int) (i k : Nat) : List Int := (l.set i (l.getD k 0)).set k (l.getD i 0)
theorem swapL_len (l : List Int) (i k : Nat) : (swapL l i k).length = l.length := by simp [swapL]
/-- The list behind t rounds. -/
def shufL (s : Int) (l : List Int) : Nat → List Int
  | 0 => l
  | t + 1 => swapL (shufL s l t) (l.length - 1 - t) (stN s (t + 1) % ((l.length - 1 - t : Nat) + 1 : Int)).toNat
theorem shufL_len (s : Int) (l : List Int) (t : Nat) : (shufL s l t).length = l.length := by
  induction t with
  | zero => rfl
  | succ t ih => rw [shufL, swapL_len, ih]
def shuffled (s : Int) (l : List Int) : Int × List Int := if diceOk s then (if l.length ≤ 64 then (stN s (l.length - 1), shufL s l (l.length - 1)) else (s, [])) else (0, [])
theorem shuffled_len (s : Int) (l : List Int) : (shuffled s l).2.length ≤ 64 := by
  unfold shuffled
  split
  · split
    · simp only [shufL_len]; omega
    · simp
  · simp

theorem ISl.swap {w : World} {b off cap : Nat} {l : List Int} (h : ISl w (some ⟨b, off, none⟩) cap l) {i k : Nat} {x y : Int} (hx : Hid (l[i]? = some x)) (hy : Hid (l[k]? = some y)) :
    ISl ((w.setCell ⟨b, off + i, none⟩ (.int .i64 y)).setCell ⟨b, off + k, none⟩ (.int .i64 x)) (some ⟨b, off, none⟩) cap (swapL l i k) := by
  obtain ⟨hi, _⟩ := List.getElem?_eq_some_iff.1 hx.out
  obtain ⟨hk, _⟩ := List.getElem?_eq_some_iff.1 hy.out
  have e1 : l.getD i 0 = x := by rw [List.getD_eq_getElem?_getD, hx.out]; rfl
  have e2 : l.getD k 0 = y := by rw [List.getD_eq_getElem?_getD, hy.out]; rfl
  unfold swapL
  rw [e1, e2]
  obtain ⟨_, _, h1⟩ := ISl.store h hi
  obtain ⟨_, _, h2⟩ := ISl.store (h1 y).1 (j := k) (by rw [List.length_set]; exact hk)
  exact (h2 x).1

set_option maxHeartbeats 3200000 in
set_option maxRecDepth 20000 in
theorem implShuffled_c (s : Int) (lv : Value) (l : List Int) (w : World) (hl : rowC.V w [lv] l) : Calls Try.prog 23 #[dice s, lv] w fun e w' => ∃ v, e = .returned (.tuple #[dice (shuffled s l).1, v]) ∧ Ext w w' ∧ rowC.own w.heap.size w'.heap.size w' [v] (shuffled s l).2 := by
  obtain ⟨la, lc, rfl⟩ : ∃ a c, lv = .slice a l.length c := let ⟨a, c, h, _⟩ := row_open hl; ⟨a, c, h⟩
  have HL := Lib.hid hl; clear hl
  cases hd : diceOk s
  · have hr : shuffled s l = (0, []) := by simp [shuffled, hd]
    rw [hr]; have Hr := Lib.hid hr; clear hr
    go_enter Try.func23, Try.ntmps23
    go_wp2_with (go_at_call 36; refine (implDiceOk_c _ _).mono ?_; rintro e w' ⟨rfl, hE⟩; obtain ⟨hc, hf, hz⟩ := hE.rules)
    refine bodyPost_ret (v := .tuple #[dice 0, .slice none 0 0]) (by simp [results, Try.results23, go_sem, hc]) rfl ⟨_, rfl, ?_, row_nil _ _ _⟩
    have : Ext w w' := Ext.trans (by repeat (first | with_reducible exact Ext.refl _ | with_reducible assumption | with_reducible refine Ext.pAlloc ?_ _ | ((with_reducible refine Ext.pSet ?_ ?_ _); rotate_left; (simp <;> omega)) | with_reducible refine Ext.pDrew ?_ | with_reducible refine Ext.pDrewN ?_ _)) hE
    repeat (first | with_reducible exact Ext.refl _ | with_reducible assumption | with_reducible refine Ext.pAlloc ?_ _ | ((with_reducible refine Ext.pSet ?_ ?_ _); rotate_left; (simp <;> omega)) | with_reducible refine Ext.pDrew ?_ | with_reducible refine Ext.pDrewN ?_ _)
  · by_cases hn : l.length ≤ 64
    rotate_left
    · have hr : shuffled s l = (s, []) := by simp [shuffled, hd, hn]
      rw [hr]; have Hr := Lib.hid hr; clear hr
      have hg : decide ((64 : Int) < l.length) = true := by rw [decide_eq_true_iff]; omega
      go_enter Try.func23, Try.ntmps23
      go_wp2_with (go_at_call 36; refine (implDiceOk_c _ _).mono ?_; rintro e w' ⟨rfl, hE⟩; obtain ⟨hc, hf, hz⟩ := hE.rules)
      refine bodyPost_ret (v := .tuple #[dice s, .slice none 0 0]) (by simp [results, Try.results23, go_sem, hc]) rfl ⟨_, rfl, ?_, row_nil _ _ _⟩
      have : Ext w w' := Ext.trans (by repeat (first | with_reducible exact Ext.refl _ | with_reducible assumption | with_reducible refine Ext.pAlloc ?_ _ | ((with_reducible refine Ext.pSet ?_ ?_ _); rotate_left; (simp <;> omega)) | with_reducible refine Ext.pDrew ?_ | with_reducible refine Ext.pDrewN ?_ _)) hE
      repeat (first | with_reducible exact Ext.refl _ | with_reducible assumption | with_reducible refine Ext.pAlloc ?_ _ | ((with_reducible refine Ext.pSet ?_ ?_ _); rotate_left; (simp <;> omega)) | with_reducible refine Ext.pDrew ?_ | with_reducible refine Ext.pDrewN ?_ _)
    · have hr : shuffled s l = (stN s (l.length - 1), shufL s l (l.length - 1)) := by simp [shuffled, hd, hn]
      rw [hr]; have Hr := Lib.hid hr; clear hr
      have hsb := diceOk_bd hd
      have hg : decide ((64 : Int) < l.length) = false := by rw [decide_eq_false_iff_not]; omega
      go_enter Try.func23, Try.ntmps23
      go_wp2_with fail
      refine (implDiceOk_c _ _).mono ?_
      rintro e w1 ⟨rfl, hE1⟩
      have B_d : Bx w1 w.heap.size [.int .i64 s] := Bx.ext (by repeat (first | with_reducible assumption | with_reducible exact Bx.new _ _ _ _ rfl | ((with_reducible refine Bx.new _ _ _ _ ?_); simp; done) | with_reducible refine Bx.pAlloc ?_ _ | with_reducible refine Bx.pDrew ?_ | with_reducible refine Bx.pDrewN ?_ _ | with_reducible apply Bx.set10 | with_reducible apply Bx.set20 | with_reducible apply Bx.set21 | with_reducible apply Bx.set30 | with_reducible apply Bx.set31 | with_reducible apply Bx.set32 | with_reducible apply Bx.set40 | with_reducible apply Bx.set41 | with_reducible apply Bx.set42 | with_reducible apply Bx.set43 | ((with_reducible refine Bx.set_other ?_ ?_ _); rotate_left; (simp <;> omega)))) hE1
      have B_r : Bx w1 (w.heap.size + 1) [.int .i64 0] := Bx.ext (by repeat (first | with_reducible assumption | with_reducible exact Bx.new _ _ _ _ rfl | ((with_reducible refine Bx.new _ _ _ _ ?_); simp; done) | with_reducible refine Bx.pAlloc ?_ _ | with_reducible refine Bx.pDrew ?_ | with_reducible refine Bx.pDrewN ?_ _ | with_reducible apply Bx.set10 | with_reducible apply Bx.set20 | with_reducible apply Bx.set21 | with_reducible apply Bx.set30 | with_reducible apply Bx.set31 | with_reducible apply Bx.set32 | with_reducible apply Bx.set40 | with_reducible apply Bx.set41 | with_reducible apply Bx.set42 | with_reducible apply Bx.set43 | ((with_reducible refine Bx.set_other ?_ ?_ _); rotate_left; (simp <;> omega)))) hE1
      have X1 : Ext w w1 := Ext.trans (by repeat (first | with_reducible exact Ext.refl _ | with_reducible assumption | with_reducible refine Ext.pAlloc ?_ _ | ((with_reducible refine Ext.pSet ?_ ?_ _); rotate_left; (simp <;> omega)) | with_reducible refine Ext.pDrew ?_ | with_reducible refine Ext.pDrewN ?_ _)) hE1
      have c_d := B_d.cell 0 _ rfl
      clear hE1
      go_wp2_with fail
      refine (drawer_c _ _).mono ?_
      rintro e w2 ⟨b, rfl, hE2, hb5, hb6, hcb, hfb⟩
      have n_r := B_r.lt
      have E12 : Ext w1 w2 := Ext.trans (by repeat (first | with_reducible exact Ext.refl _ | with_reducible assumption | with_reducible refine Ext.pAlloc ?_ _ | ((with_reducible refine Ext.pSet ?_ ?_ _); rotate_left; (simp <;> omega)) | with_reducible refine Ext.pDrew ?_ | with_reducible refine Ext.pDrewN ?_ _)) hE2
      replace B_r := B_r.ext E12
      have X2 : Ext w w2 := X1.trans E12
      replace hb5 : w.heap.size + 1 < b := by (try simp at hb5); omega
      clear c_d
      go_wp2_with fail
      refine (copyRow_c _ l _ (rowC.vext HL.out X2) (by omega)).mono ?_
      rintro e w3 ⟨v3, rfl, hE3, hO3⟩
      obtain ⟨oa, ocap, rfl, o1, o2, hI3, hab⟩ := row_take hO3
      replace B_r := B_r.ext hE3
      have X3 : Ext w w3 := X2.trans hE3
      have hcb3 := cell_ext hcb hE3
      have hfb3 := frozen_ext hcb hfb hE3
      have HI3 := Lib.hid hI3
      have HAB := Lib.hid hab
      clear hI3 hab hO3 hE3 hE2 hcb hfb B_d X1
      go_wp2
      go_loopw [9, 10] (fun v9 _ wr => ∃ t : Nat, t ≤ l.length - 1 ∧ v9 = .int .i64 ((l.length : Int) - 1 - t) ∧ ISl wr oa ocap (shufL s l t) ∧ Bx wr (w.heap.size + 1) [.int .i64 0] ∧ Ext w wr ∧ w3.heap.size ≤ wr.heap.size ∧
          wr.cell? ⟨b, 0, none⟩ = some (.int .i64 (stN s t)) ∧ wr.frozen? ⟨b, 0, none⟩ = false) (fun v9 _ _ => (intOf v9).toNat)
      case atStart => exact ⟨0, Nat.zero_le _, by go_num, HI3.out, B_r, X3, Nat.le_refl _, hcb3, hfb3⟩
      case round =>
        clear hcb3 hfb3 HI3 X3 B_r
        obtain ⟨t, ht, rfl, hI, B_r, X, hz, hcell, hfr⟩ := hrel
        obtain ⟨hs1, hs2⟩ := stN_bd hsb t
        by_cases hlt : t < l.length - 1
        · obtain ⟨i, hi⟩ : ∃ i : Nat, i = l.length - 1 - t := ⟨_, rfl⟩
          have hii : ((l.length : Int) - 1 - t) = i := by omega
          rw [hii]
          have hi1 : 1 ≤ i := by omega
          have hin : i < l.length := by omega
          have Hi := Lib.hid hi
          have Hii := Lib.hid hii
          have HI := Lib.hid hI
          have Hlt := Lib.hid hlt
          have hi2 : (0 : Int) ≤ i := by omega
          have hi3 : (i : Int) < l.length := by omega
          have hw1 : IntKind.i64.wrap ((i : Int) + 1) = i + 1 := IntWalk.i64_in _ (by omega)
          have hw2 : IntKind.i64.wrap ((i : Int) - 1) = i - 1 := IntWalk.i64_in _ (by omega)
          clear hi hii hI hlt
          go_wp2_with fail
          refine (draw_o _ (stN s t) b _ hcell hfr hs1 hs2 (by omega)).mono ?_
          rintro e w4 ⟨rfl, hC, hsz, hcell4, hfr4⟩
          have hm1 := Int.emod_nonneg (stepD (stN s t)) (show (i : Int) + 1 ≠ 0 by omega)
          have hm2 := Int.emod_lt_of_pos (stepD (stN s t)) (show (0 : Int) < (i : Int) + 1 by omega)
          obtain ⟨K, hK⟩ : ∃ K : Nat, stepD (stN s t) % ((i : Int) + 1) = K := ⟨_, (Int.toNat_of_nonneg hm1).symm⟩
          rw [hK] at hm1 hm2 ⊢
          have HK := Lib.hid hK
          have hlen := shufL_len s l t
          have hI4 : ISl w4 oa ocap (shufL s l t) := ISl.chg HI.out hC (fun b' h' => by have := HAB.out b' h'; omega)
          obtain ⟨ob, oo, rfl⟩ := ISl.some hI4 (by omega)
          obtain ⟨⟨x, hcx, hx⟩, hfx, _⟩ := ISl.store hI4 (j := i) (by omega)
          obtain ⟨⟨y, hcy, hy⟩, hfy, _⟩ := ISl.store hI4 (j := K) (by omega)
          have hab := HAB.out ob (by simp [ablk])
          have X4 : Ext w w4 := Chg.ext X hC (by omega)
          have B_r4 : Bx w4 (w.heap.size + 1) [.int .i64 0] := B_r.chg hC (by omega)
          have hbo : ob ≠ b := by omega
          have hk2 : (0 : Int) ≤ K := hm1
          have hk3 : (K : Int) < l.length := by omega
          have HI4 := Lib.hid hI4
          have hsn := Lib.hid (show shufL s l (t + 1) = swapL (shufL s l t) i K by rw [shufL, ← Hi.out]; congr 1; show (stepD (stN s t) % ((i : Int) + 1)).toNat = K; rw [HK.out]; rfl)
          have Hsz := Lib.hid hsz
          clear hK hlen hI4 hcell hfr hC X B_r HI HK hsz
          by_cases hik : K = i
          · subst hik
            obtain rfl : x = y := Option.some.inj (hx.out.symm.trans hy.out)
            go_wp2
            go_region
            all_goals
              go_wp2
              go_roundw
              case rel =>
                refine ⟨t + 1, by have := Hlt.out; omega, valI (by have := Hii.out; push_cast; omega), ?_, by repeat (first | with_reducible assumption | with_reducible exact Bx.new _ _ _ _ rfl | ((with_reducible refine Bx.new _ _ _ _ ?_); simp; done) | with_reducible refine Bx.pAlloc ?_ _ | with_reducible refine Bx.pDrew ?_ | with_reducible refine Bx.pDrewN ?_ _ | with_reducible apply Bx.set10 | with_reducible apply Bx.set20 | with_reducible apply Bx.set21 | with_reducible apply Bx.set30 | with_reducible apply Bx.set31 | with_reducible apply Bx.set32 | with_reducible apply Bx.set40 | with_reducible apply Bx.set41 | with_reducible apply Bx.set42 | with_reducible apply Bx.set43 | ((with_reducible refine Bx.set_other ?_ ?_ _); rotate_left; (simp <;> omega))), by repeat (first | with_reducible exact Ext.refl _ | with_reducible assumption | with_reducible refine Ext.pAlloc ?_ _ | ((with_reducible refine Ext.pSet ?_ ?_ _); rotate_left; (simp <;> omega)) | with_reducible refine Ext.pDrew ?_ | with_reducible refine Ext.pDrewN ?_ _), by simp [World.setCell]; have := Hsz.out; omega, ?_, ?_⟩
                · rw [hsn.out]; exact (ISl.swap HI4.out hx hy).ext (Ext.drew _)
                · exact (Var.set_other (Var.set_other ⟨hcell4, hfr4⟩ _ (.inl hbo)) _ (.inl hbo)).1
                · exact (Var.set_other (Var.set_other ⟨hcell4, hfr4⟩ _ (.inl hbo)) _ (.inl hbo)).2
              case measure => simp [intOf]; omega
          · have hne : oo + K ≠ oo + i := by omega
            go_wp2
            go_region
            all_goals
              go_wp2
              go_roundw
              case rel =>
                refine ⟨t + 1, by have := Hlt.out; omega, valI (by have := Hii.out; push_cast; omega), ?_, by repeat (first | with_reducible assumption | with_reducible exact Bx.new _ _ _ _ rfl | ((with_reducible refine Bx.new _ _ _ _ ?_); simp; done) | with_reducible refine Bx.pAlloc ?_ _ | with_reducible refine Bx.pDrew ?_ | with_reducible refine Bx.pDrewN ?_ _ | with_reducible apply Bx.set10 | with_reducible apply Bx.set20 | with_reducible apply Bx.set21 | with_reducible apply Bx.set30 | with_reducible apply Bx.set31 | with_reducible apply Bx.set32 | with_reducible apply Bx.set40 | with_reducible apply Bx.set41 | with_reducible apply Bx.set42 | with_reducible apply Bx.set43 | ((with_reducible refine Bx.set_other ?_ ?_ _); rotate_left; (simp <;> omega))), by repeat (first | with_reducible exact Ext.refl _ | with_reducible assumption | with_reducible refine Ext.pAlloc ?_ _ | ((with_reducible refine Ext.pSet ?_ ?_ _); rotate_left; (simp <;> omega)) | with_reducible refine Ext.pDrew ?_ | with_reducible refine Ext.pDrewN ?_ _), by simp [World.setCell]; have := Hsz.out; omega, ?_, ?_⟩
                · rw [hsn.out]; exact (ISl.swap HI4.out hx hy).ext (Ext.drew _)
                · exact (Var.set_other (Var.set_other ⟨hcell4, hfr4⟩ _ (.inl hbo)) _ (.inl hbo)).1
                · exact (Var.set_other (Var.set_other ⟨hcell4, hfr4⟩ _ (.inl hbo)) _ (.inl hbo)).2
              case measure => simp [intOf]; omega
        · have he : t = l.length - 1 := by omega
          have hnp : ¬ (1 : Int) ≤ (l.length : Int) - 1 - t := by omega
          have HI := Lib.hid hI
          have n_r := B_r.lt
          have He := Lib.hid he
          clear hI he hlt
          go_wp2_with fail
          refine (now_c (stN s t) b _ hcell).mono ?_
          rintro e w5 ⟨rfl, hE5⟩
          have B_r5 := B_r.ext hE5
          have X5 := X.trans hE5
          have hz5 := hE5.size
          have HI5 := Lib.hid (HI.out.ext hE5)
          have c_r := B_r5.cell 0 _ rfl
          have f_r := B_r5.fr
          clear hcell hfr hE5 HI n_r
          have n_r := B_r5.lt
          go_wp2
          have e := He.out
          subst e
          refine bodyPost_ret (v := .tuple #[dice (stN s (l.length - 1)), .slice oa l.length ocap]) (by simp [results, Try.results23, go_sem, c_r, n_r]) rfl ⟨_, rfl, by repeat (first | with_reducible exact Ext.refl _ | with_reducible assumption | with_reducible refine Ext.pAlloc ?_ _ | ((with_reducible refine Ext.pSet ?_ ?_ _); rotate_left; (simp <;> omega)) | with_reducible refine Ext.pDrew ?_ | with_reducible refine Ext.pDrewN ?_ _), ?_⟩
          refine row_own.2 ⟨oa, ocap, by rw [shufL_len], by rw [shufL_len]; exact o1, o2, ?_, fun b' h' => ?_⟩
          · exact ISl.chg HI5.out (Chg.setCell w5 _ _ (lo := w.heap.size + 1) (hi := w.heap.size + 2) (Nat.le_refl _) (by simp)) (fun b' h' => by have := HAB.out b' h'; omega)
          · have := HAB.out b' h'; simp [World.setCell]; omega

set_option maxHeartbeats 3200000 in
set_option maxRecDepth 20000 in
theorem specShuffled_c (s : Int) (lv : Value) (l : List Int) (w : World) (hl : rowC.V w [lv] l) : Calls Try.prog 22 #[dice s, lv] w fun e w' => ∃ v, e = .returned (.tuple #[dice (shuffled s l).1, v]) ∧ Ext w w' ∧ rowC.own w.heap.size w'.heap.size w' [v] (shuffled s l).2 := by
  obtain ⟨la, lc, rfl⟩ : ∃ a c, lv = .slice a l.length c := let ⟨a, c, h, _⟩ := row_open hl; ⟨a, c, h⟩
  have HL := Lib.hid hl; clear hl
  cases hd : diceOk s
  · have hr : shuffled s l = (0, []) := by simp [shuffled, hd]
    rw [hr]; have Hr := Lib.hid hr; clear hr
    go_enter Try.func22, Try.ntmps22
    go_wp2_with fail
    refine (specDiceOk_c _ _).mono ?_
    rintro e w' ⟨rfl, hE⟩
    have B_d : Bx w' w.heap.size [.int .i64 s] := Bx.ext (by repeat (first | with_reducible assumption | with_reducible exact Bx.new _ _ _ _ rfl | ((with_reducible refine Bx.new _ _ _ _ ?_); simp; done) | with_reducible refine Bx.pAlloc ?_ _ | with_reducible refine Bx.pDrew ?_ | with_reducible refine Bx.pDrewN ?_ _ | with_reducible apply Bx.set10 | with_reducible apply Bx.set20 | with_reducible apply Bx.set21 | with_reducible apply Bx.set30 | with_reducible apply Bx.set31 | with_reducible apply Bx.set32 | with_reducible apply Bx.set40 | with_reducible apply Bx.set41 | with_reducible apply Bx.set42 | with_reducible apply Bx.set43 | ((with_reducible refine Bx.set_other ?_ ?_ _); rotate_left; (simp <;> omega)))) hE
    have B_r : Bx w' (w.heap.size + 1) [.int .i64 0] := Bx.ext (by repeat (first | with_reducible assumption | with_reducible exact Bx.new _ _ _ _ rfl | ((with_reducible refine Bx.new _ _ _ _ ?_); simp; done) | with_reducible refine Bx.pAlloc ?_ _ | with_reducible refine Bx.pDrew ?_ | with_reducible refine Bx.pDrewN ?_ _ | with_reducible apply Bx.set10 | with_reducible apply Bx.set20 | with_reducible apply Bx.set21 | with_reducible apply Bx.set30 | with_reducible apply Bx.set31 | with_reducible apply Bx.set32 | with_reducible apply Bx.set40 | with_reducible apply Bx.set41 | with_reducible apply Bx.set42 | with_reducible apply Bx.set43 | ((with_reducible refine Bx.set_other ?_ ?_ _); rotate_left; (simp <;> omega)))) hE
    have : Ext w w' := Ext.trans (by repeat (first | with_reducible exact Ext.refl _ | with_reducible assumption | with_reducible refine Ext.pAlloc ?_ _ | ((with_reducible refine Ext.pSet ?_ ?_ _); rotate_left; (simp <;> omega)) | with_reducible refine Ext.pDrew ?_ | with_reducible refine Ext.pDrewN ?_ _)) hE
    have c_d := B_d.cell 0 _ rfl; have n_d := B_d.lt; have c_r := B_r.cell 0 _ rfl; have f_r := B_r.fr; have n_r := B_r.lt
    clear hE
    go_wp2
    refine bodyPost_ret (v := .tuple #[dice 0, .slice (some ⟨w'.heap.size, 0, none⟩) 0 0]) (by simp [results, Try.results22, go_sem, c_r, n_r]) rfl ⟨_, rfl, by repeat (first | with_reducible exact Ext.refl _ | with_reducible assumption | with_reducible refine Ext.pAlloc ?_ _ | ((with_reducible refine Ext.pSet ?_ ?_ _); rotate_left; (simp <;> omega)) | with_reducible refine Ext.pDrew ?_ | with_reducible refine Ext.pDrewN ?_ _), ?_⟩
    refine Cd.own.wide (lo := w'.heap.size) (hi := w'.heap.size + 1) ?_ this.size (by simp [World.setCell])
    first | exact row_own.2 ⟨_, 0, rfl, Nat.le_refl _, by omega, ISl.chg (ISl.litAt _ _ _ (by simp)) (Chg.setCell _ _ _ (lo := w.heap.size + 1) (hi := w.heap.size + 2) (Nat.le_refl _) (by simp)) (by simp [ablk]; omega), by simp [ablk]⟩ | exact row_own.2 ⟨_, 0, rfl, Nat.le_refl _, by omega, ISl.litAt _ _ _ (by simp [World.setCell]), by simp [ablk]⟩
  · by_cases hn : l.length ≤ 64
    rotate_left
    · have hr : shuffled s l = (s, []) := by simp [shuffled, hd, hn]
      rw [hr]; have Hr := Lib.hid hr; clear hr
      have hg : decide ((64 : Int) < l.length) = true := by rw [decide_eq_true_iff]; omega
      go_enter Try.func22, Try.ntmps22
      go_wp2_with fail
      refine (specDiceOk_c _ _).mono ?_
      rintro e w' ⟨rfl, hE⟩
      have B_d : Bx w' w.heap.size [.int .i64 s] := Bx.ext (by repeat (first | with_reducible assumption | with_reducible exact Bx.new _ _ _ _ rfl | ((with_reducible refine Bx.new _ _ _ _ ?_); simp; done) | with_reducible refine Bx.pAlloc ?_ _ | with_reducible refine Bx.pDrew ?_ | with_reducible refine Bx.pDrewN ?_ _ | with_reducible apply Bx.set10 | with_reducible apply Bx.set20 | with_reducible apply Bx.set21 | with_reducible apply Bx.set30 | with_reducible apply Bx.set31 | with_reducible apply Bx.set32 | with_reducible apply Bx.set40 | with_reducible apply Bx.set41 | with_reducible apply Bx.set42 | with_reducible apply Bx.set43 | ((with_reducible refine Bx.set_other ?_ ?_ _); rotate_left; (simp <;> omega)))) hE
      have B_r : Bx w' (w.heap.size + 1) [.int .i64 0] := Bx.ext (by repeat (first | with_reducible assumption | with_reducible exact Bx.new _ _ _ _ rfl | ((with_reducible refine Bx.new _ _ _ _ ?_); simp; done) | with_reducible refine Bx.pAlloc ?_ _ | with_reducible refine Bx.pDrew ?_ | with_reducible refine Bx.pDrewN ?_ _ | with_reducible apply Bx.set10 | with_reducible apply Bx.set20 | with_reducible apply Bx.set21 | with_reducible apply Bx.set30 | with_reducible apply Bx.set31 | with_reducible apply Bx.set32 | with_reducible apply Bx.set40 | with_reducible apply Bx.set41 | with_reducible apply Bx.set42 | with_reducible apply Bx.set43 | ((with_reducible refine Bx.set_other ?_ ?_ _); rotate_left; (simp <;> omega)))) hE
      have : Ext w w' := Ext.trans (by repeat (first | with_reducible exact Ext.refl _ | with_reducible assumption | with_reducible refine Ext.pAlloc ?_ _ | ((with_reducible refine Ext.pSet ?_ ?_ _); rotate_left; (simp <;> omega)) | with_reducible refine Ext.pDrew ?_ | with_reducible refine Ext.pDrewN ?_ _)) hE
      have c_d := B_d.cell 0 _ rfl; have n_d := B_d.lt; have c_r := B_r.cell 0 _ rfl; have f_r := B_r.fr; have n_r := B_r.lt
      clear hE
      go_wp2
      refine bodyPost_ret (v := .tuple #[dice s, .slice (some ⟨w'.heap.size, 0, none⟩) 0 0]) (by simp [results, Try.results22, go_sem, c_r, n_r]) rfl ⟨_, rfl, by repeat (first | with_reducible exact Ext.refl _ | with_reducible assumption | with_reducible refine Ext.pAlloc ?_ _ | ((with_reducible refine Ext.pSet ?_ ?_ _); rotate_left; (simp <;> omega)) | with_reducible refine Ext.pDrew ?_ | with_reducible refine Ext.pDrewN ?_ _), ?_⟩
      refine Cd.own.wide (lo := w'.heap.size) (hi := w'.heap.size + 1) ?_ this.size (by simp [World.setCell])
      first | exact row_own.2 ⟨_, 0, rfl, Nat.le_refl _, by omega, ISl.chg (ISl.litAt _ _ _ (by simp)) (Chg.setCell _ _ _ (lo := w.heap.size + 1) (hi := w.heap.size + 2) (Nat.le_refl _) (by simp)) (by simp [ablk]; omega), by simp [ablk]⟩ | exact row_own.2 ⟨_, 0, rfl, Nat.le_refl _, by omega, ISl.litAt _ _ _ (by simp [World.setCell]), by simp [ablk]⟩
    · have hr : shuffled s l = (stN s (l.length - 1), shufL s l (l.length - 1)) := by simp [shuffled, hd, hn]
      rw [hr]; have Hr := Lib.hid hr; clear hr
      have Hd := Lib.hid hd
      have hg : decide ((64 : Int) < l.length) = false := by rw [decide_eq_false_iff_not]; omega
      go_enter Try.func22, Try.ntmps22
      go_wp2_with fail
      refine (specDiceOk_c _ _).mono ?_
      rintro e w1 ⟨rfl, hE1⟩
      have B_d : Bx w1 w.heap.size [.int .i64 s] := Bx.ext (by repeat (first | with_reducible assumption | with_reducible exact Bx.new _ _ _ _ rfl | ((with_reducible refine Bx.new _ _ _ _ ?_); simp; done) | with_reducible refine Bx.pAlloc ?_ _ | with_reducible refine Bx.pDrew ?_ | with_reducible refine Bx.pDrewN ?_ _ | with_reducible apply Bx.set10 | with_reducible apply Bx.set20 | with_reducible apply Bx.set21 | with_reducible apply Bx.set30 | with_reducible apply Bx.set31 | with_reducible apply Bx.set32 | with_reducible apply Bx.set40 | with_reducible apply Bx.set41 | with_reducible apply Bx.set42 | with_reducible apply Bx.set43 | ((with_reducible refine Bx.set_other ?_ ?_ _); rotate_left; (simp <;> omega)))) hE1
      have B_r : Bx w1 (w.heap.size + 1) [.int .i64 0] := Bx.ext (by repeat (first | with_reducible assumption | with_reducible exact Bx.new _ _ _ _ rfl | ((with_reducible refine Bx.new _ _ _ _ ?_); simp; done) | with_reducible refine Bx.pAlloc ?_ _ | with_reducible refine Bx.pDrew ?_ | with_reducible refine Bx.pDrewN ?_ _ | with_reducible apply Bx.set10 | with_reducible apply Bx.set20 | with_reducible apply Bx.set21 | with_reducible apply Bx.set30 | with_reducible apply Bx.set31 | with_reducible apply Bx.set32 | with_reducible apply Bx.set40 | with_reducible apply Bx.set41 | with_reducible apply Bx.set42 | with_reducible apply Bx.set43 | ((with_reducible refine Bx.set_other ?_ ?_ _); rotate_left; (simp <;> omega)))) hE1
      have X1 : Ext w w1 := Ext.trans (by repeat (first | with_reducible exact Ext.refl _ | with_reducible assumption | with_reducible refine Ext.pAlloc ?_ _ | ((with_reducible refine Ext.pSet ?_ ?_ _); rotate_left; (simp <;> omega)) | with_reducible refine Ext.pDrew ?_ | with_reducible refine Ext.pDrewN ?_ _)) hE1
      clear hE1
      go_wp2_with fail
      refine (l1Copy_c _ l _ (rowC.vext HL.out X1) (by omega)).mono ?_
      rintro e w3 ⟨v3, rfl, hE3, hO3⟩
      obtain ⟨oa, ocap, rfl, o1, o2, hI3, hab⟩ := row_take hO3
      have n_r0 := B_r.lt
      replace B_d := B_d.ext hE3
      replace B_r := B_r.ext hE3
      have X3 : Ext w w3 := X1.trans hE3
      have HI3 := Lib.hid hI3
      have HAB := Lib.hid hab
      clear hI3 hab hO3 hE3 X1
      go_wp2
      go_loopw [7, 8, 9, 10] (fun v9 _ _ _ wr => ∃ t : Nat, t ≤ l.length - 1 ∧ v9 = .int .i64 ((l.length : Int) - 1 - t) ∧ ISl wr oa ocap (shufL s l t) ∧ Bx wr (w.heap.size + 1) [.int .i64 0] ∧ Ext w wr ∧ w3.heap.size ≤ wr.heap.size ∧
          Bx wr w.heap.size [.int .i64 (stN s t)]) (fun v9 _ _ _ _ => (intOf v9).toNat)
      case atStart => exact ⟨0, Nat.zero_le _, by go_num, HI3.out, B_r, X3, Nat.le_refl _, B_d⟩
      case round =>
        clear HI3 X3 B_r B_d
        obtain ⟨t, ht, rfl, hI, B_r, X, hz, B_d⟩ := hrel
        by_cases hlt : t < l.length - 1
        · obtain ⟨i, hi⟩ : ∃ i : Nat, i = l.length - 1 - t := ⟨_, rfl⟩
          have hii : ((l.length : Int) - 1 - t) = i := by omega
          rw [hii]
          have hi1 : 1 ≤ i := by omega
          have hin : i < l.length := by omega
          have hu := Lib.hid (show under (stN s t) ((i : Int) + 1) = (stN s (t + 1), stN s (t + 1) % ((i : Int) + 1)) by
            have : inB ((i : Int) + 1) 1 1000000000 = true := by simp [inB]; omega
            simp [under, stN_ok Hd.out t, this, stN])
          have Hi := Lib.hid hi
          have Hii := Lib.hid hii
          have HI := Lib.hid hI
          have Hlt := Lib.hid hlt
          have hi2 : (0 : Int) ≤ i := by omega
          have hi3 : (i : Int) < l.length := by omega
          have hip : (0 : Int) < i := by omega
          have hw1 : IntKind.i64.wrap ((i : Int) + 1) = i + 1 := IntWalk.i64_in _ (by omega)
          have hw2 : IntKind.i64.wrap ((i : Int) - 1) = i - 1 := IntWalk.i64_in _ (by omega)
          have c_d := B_d.cell 0 _ rfl
          clear hi hii hI hlt
          go_wp2_with fail
          refine (specUnder_c _ _ _).mono ?_
          rw [hu.out]
          rintro e w4 ⟨rfl, hE4⟩
          have hm1 := Int.emod_nonneg (stN s (t + 1)) (show (i : Int) + 1 ≠ 0 by omega)
          have hm2 := Int.emod_lt_of_pos (stN s (t + 1)) (show (0 : Int) < (i : Int) + 1 by omega)
          obtain ⟨K, hK⟩ : ∃ K : Nat, stN s (t + 1) % ((i : Int) + 1) = K := ⟨_, (Int.toNat_of_nonneg hm1).symm⟩
          simp only [hK] at hm1 hm2 ⊢
          have HK := Lib.hid hK
          have hlen := shufL_len s l t
          have hI4 : ISl w4 oa ocap (shufL s l t) := HI.out.ext hE4
          obtain ⟨ob, oo, rfl⟩ := ISl.some hI4 (by omega)
          obtain ⟨⟨x, hcx, hx⟩, hfx, _⟩ := ISl.store hI4 (j := i) (by omega)
          obtain ⟨⟨y, hcy, hy⟩, hfy, _⟩ := ISl.store hI4 (j := K) (by omega)
          have hab := HAB.out ob (by simp [ablk])
          have X4 : Ext w w4 := X.trans hE4
          have B_r4 := B_r.ext hE4
          have B_d4 := B_d.ext hE4
          have f_d := B_d4.fr
          have n_d := B_d4.lt
          have n_o : ob < w4.heap.size := World.block_lt_of_cell? _ _ hcx
          have hk2 : (0 : Int) ≤ K := hm1
          have hk3 : (K : Int) < l.length := by omega
          have HI4 := Lib.hid hI4
          have hsn := Lib.hid (show shufL s l (t + 1) = swapL (shufL s l t) i K by rw [shufL, ← Hi.out, HK.out]; rfl)
          have hz4 := hE4.size
          clear c_d
          have c_d := B_d4.cell 0 _ rfl
          clear hK hlen hI4 X B_r B_d HI HK hE4
          by_cases hik : K = i
          · subst hik
            obtain rfl : x = y := Option.some.inj (hx.out.symm.trans hy.out)
            go_wp2
            go_roundw
            case rel =>
              refine ⟨t + 1, by have := Hlt.out; omega, valI (by have := Hii.out; push_cast; omega), ?_, by repeat (first | with_reducible assumption | with_reducible exact Bx.new _ _ _ _ rfl | ((with_reducible refine Bx.new _ _ _ _ ?_); simp; done) | with_reducible refine Bx.pAlloc ?_ _ | with_reducible refine Bx.pDrew ?_ | with_reducible refine Bx.pDrewN ?_ _ | with_reducible apply Bx.set10 | with_reducible apply Bx.set20 | with_reducible apply Bx.set21 | with_reducible apply Bx.set30 | with_reducible apply Bx.set31 | with_reducible apply Bx.set32 | with_reducible apply Bx.set40 | with_reducible apply Bx.set41 | with_reducible apply Bx.set42 | with_reducible apply Bx.set43 | ((with_reducible refine Bx.set_other ?_ ?_ _); rotate_left; (simp <;> omega))), by repeat (first | with_reducible exact Ext.refl _ | with_reducible assumption | with_reducible refine Ext.pAlloc ?_ _ | ((with_reducible refine Ext.pSet ?_ ?_ _); rotate_left; (simp <;> omega)) | with_reducible refine Ext.pDrew ?_ | with_reducible refine Ext.pDrewN ?_ _), by simp [World.setCell]; omega, by repeat (first | with_reducible assumption | with_reducible exact Bx.new _ _ _ _ rfl | ((with_reducible refine Bx.new _ _ _ _ ?_); simp; done) | with_reducible refine Bx.pAlloc ?_ _ | with_reducible refine Bx.pDrew ?_ | with_reducible refine Bx.pDrewN ?_ _ | with_reducible apply Bx.set10 | with_reducible apply Bx.set20 | with_reducible apply Bx.set21 | with_reducible apply Bx.set30 | with_reducible apply Bx.set31 | with_reducible apply Bx.set32 | with_reducible apply Bx.set40 | with_reducible apply Bx.set41 | with_reducible apply Bx.set42 | with_reducible apply Bx.set43 | ((with_reducible refine Bx.set_other ?_ ?_ _); rotate_left; (simp <;> omega)))⟩
              rw [hsn.out]
              exact (ISl.swap (ISl.chg HI4.out (Chg.setCell w4 ⟨w.heap.size, 0, none⟩ (.int .i64 (stN s (t + 1))) (lo := w.heap.size) (hi := w.heap.size + 1) (Nat.le_refl _) (Nat.lt_succ_self _)) (fun b' h' => by have := HAB.out b' h'; omega)) hx hy).ext (Ext.alloc _ _)
            case measure => simp [intOf]; omega
          · have hne : oo + K ≠ oo + i := by omega
            go_wp2
            go_roundw
            case rel =>
              refine ⟨t + 1, by have := Hlt.out; omega, valI (by have := Hii.out; push_cast; omega), ?_, by repeat (first | with_reducible assumption | with_reducible exact Bx.new _ _ _ _ rfl | ((with_reducible refine Bx.new _ _ _ _ ?_); simp; done) | with_reducible refine Bx.pAlloc ?_ _ | with_reducible refine Bx.pDrew ?_ | with_reducible refine Bx.pDrewN ?_ _ | with_reducible apply Bx.set10 | with_reducible apply Bx.set20 | with_reducible apply Bx.set21 | with_reducible apply Bx.set30 | with_reducible apply Bx.set31 | with_reducible apply Bx.set32 | with_reducible apply Bx.set40 | with_reducible apply Bx.set41 | with_reducible apply Bx.set42 | with_reducible apply Bx.set43 | ((with_reducible refine Bx.set_other ?_ ?_ _); rotate_left; (simp <;> omega))), by repeat (first | with_reducible exact Ext.refl _ | with_reducible assumption | with_reducible refine Ext.pAlloc ?_ _ | ((with_reducible refine Ext.pSet ?_ ?_ _); rotate_left; (simp <;> omega)) | with_reducible refine Ext.pDrew ?_ | with_reducible refine Ext.pDrewN ?_ _), by simp [World.setCell]; omega, by repeat (first | with_reducible assumption | with_reducible exact Bx.new _ _ _ _ rfl | ((with_reducible refine Bx.new _ _ _ _ ?_); simp; done) | with_reducible refine Bx.pAlloc ?_ _ | with_reducible refine Bx.pDrew ?_ | with_reducible refine Bx.pDrewN ?_ _ | with_reducible apply Bx.set10 | with_reducible apply Bx.set20 | with_reducible apply Bx.set21 | with_reducible apply Bx.set30 | with_reducible apply Bx.set31 | with_reducible apply Bx.set32 | with_reducible apply Bx.set40 | with_reducible apply Bx.set41 | with_reducible apply Bx.set42 | with_reducible apply Bx.set43 | ((with_reducible refine Bx.set_other ?_ ?_ _); rotate_left; (simp <;> omega)))⟩
              rw [hsn.out]
              exact (ISl.swap (ISl.chg HI4.out (Chg.setCell w4 ⟨w.heap.size, 0, none⟩ (.int .i64 (stN s (t + 1))) (lo := w.heap.size) (hi := w.heap.size + 1) (Nat.le_refl _) (Nat.lt_succ_self _)) (fun b' h' => by have := HAB.out b' h'; omega)) hx hy).ext (Ext.alloc _ _)
            case measure => simp [intOf]; omega
        · have he : t = l.length - 1 := by omega
          have hnp : ¬ (0 : Int) < (l.length : Int) - 1 - t := by omega
          have HI := Lib.hid hI
          have c_d := B_d.cell 0 _ rfl
          have n_d := B_d.lt
          have c_r := B_r.cell 0 _ rfl
          have f_r := B_r.fr
          have n_r := B_r.lt
          have He := Lib.hid he
          clear hI he hlt
          go_wp2
          have e := He.out
          subst e
          refine bodyPost_ret (v := .tuple #[dice (stN s (l.length - 1)), .slice oa l.length ocap]) (by simp [results, Try.results22, go_sem, c_r]) rfl ⟨_, rfl, by repeat (first | with_reducible exact Ext.refl _ | with_reducible assumption | with_reducible refine Ext.pAlloc ?_ _ | ((with_reducible refine Ext.pSet ?_ ?_ _); rotate_left; (simp <;> omega)) | with_reducible refine Ext.pDrew ?_ | with_reducible refine Ext.pDrewN ?_ _), ?_⟩
          refine row_own.2 ⟨oa, ocap, by rw [shufL_len], by rw [shufL_len]; exact o1, o2, ?_, fun b' h' => ?_⟩
          · exact ISl.chg HI.out (Chg.setCell _ _ _ (lo := w.heap.size + 1) (hi := w.heap.size + 2) (Nat.le_refl _) (by simp)) (fun b' h' => by have := HAB.out b' h'; omega)
          · have := HAB.out b' h'; simp [World.setCell]; omega

end Go.Proofs.Ytdkhghnhggedbaa
