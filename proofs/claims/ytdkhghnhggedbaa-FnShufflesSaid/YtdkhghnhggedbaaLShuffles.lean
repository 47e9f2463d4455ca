/- The law FnShuffles is true for every input: it returns true, and what it was given reads as before. -/
import Derived.Test.YtdkhghnhggedbaaCod
import Derived.Test.YtdkhghnhggedbaaShuf
import Derived.Test.YtdkhghnhggedbaaDr9
set_option linter.unusedVariables false
set_option linter.unusedSimpArgs false
namespace Go.Proofs.Ytdkhghnhggedbaa
open Go.RowKit Go.Sl

theorem swapL_count (l : List Int) (i k : Nat) (hi : i < l.length) (hk : k < l.length) (y : Int) : (swapL l i k).count y = l.count y := by
  have e1 : l.getD i 0 = l[i] := by rw [List.getD_eq_getElem?_getD, List.getElem?_eq_getElem hi]; rfl
  have e2 : l.getD k 0 = l[k] := by rw [List.getD_eq_getElem?_getD, List.getElem?_eq_getElem hk]; rfl
  have hp := Array.swap_perm (xs := l.toArray) (i := i) (j := k) (by simpa using hi) (by simpa using hk)
  have hp2 := Array.perm_iff_toList_perm.1 hp
  have e3 : (l.toArray.swap i k (by simpa using hi) (by simpa using hk)).toList = swapL l i k := by
    unfold swapL
    rw [e1, e2]
    simp [Array.swap]
  rw [e3] at hp2
  exact hp2.count_eq y
theorem shufL_count (s : Int) (l : List Int) (t : Nat) (ht : t ≤ l.length - 1) (y : Int) : (shufL s l t).count y = l.count y := by
  induction t with
  | zero => rfl
  | succ t ih =>
    rw [shufL, swapL_count _ _ _ (by rw [shufL_len]; omega) ?_ y, ih (by omega)]
    rw [shufL_len]
    have h1 := Int.emod_nonneg (stN s (t + 1)) (b := ((l.length - 1 - t : Nat) + 1 : Int)) (by omega)
    have h2 := Int.emod_lt_of_pos (stN s (t + 1)) (b := ((l.length - 1 - t : Nat) + 1 : Int)) (by omega)
    omega
theorem count_take {l : List Int} {k : Nat} {x y : Int} (h : Hid (l[k]? = some x)) : (l.take (k + 1)).count y = (l.take k).count y + (if x = y then 1 else 0) := by
  rw [take_snoc h, List.count_append, List.count_singleton]
  by_cases e : x = y <;> simp [e]

set_option maxHeartbeats 4000000 in
set_option maxRecDepth 100000 in
theorem shuffles_c (W : World) (args : Array Value) (hs : args.size = 1) (h : ∀ (j : Nat) t v, Try.f8.params[j]? = some t → args[j]? = some v → ArgOk Try.prog W t v) :
    Calls Try.prog 8 args W fun e W' => e = .returned (.bool true) ∧ Ext W W' := by
  match args, hs with
  | ⟨[a0]⟩, _ =>
    obtain ⟨ca, n, cc, rfl, hn1, hn2, HC⟩ := arg_code (h 0 _ a0 rfl rfl)
    clear h
    by_cases hbig : n ≤ 4096
    rotate_left
    · have hb : decide ((4096 : Int) < n) = true := by rw [decide_eq_true_iff]; omega
      have Hb := Lib.hid hb; clear hb
      go_enter Try.func8, Try.ntmps8
      go_wp2_with (go_at_call 33; refine (big_c _ _ _ _).mono ?_; rw [Hb.out]; rintro e w' ⟨rfl, rfl⟩)
      go_ret
      exact ⟨rfl, Ext.refl _⟩
    have hb : decide ((4096 : Int) < n) = false := by rw [decide_eq_false_iff_not]; omega
    have Hb := Lib.hid hb; clear hb
    go_enter Try.func8, Try.ntmps8
    go_wp2_with fail
    refine (big_c _ _ _ _).mono ?_
    rw [Hb.out]
    rintro e w' ⟨rfl, rfl⟩
    go_wp2_with fail
    refine (drawShuffled_c n cc ca _ (by omega) HC.out).mono ?_
    rintro e w1 ⟨x, v1, l, rfl, hl65, O1, X1⟩
    obtain ⟨la, lc, rfl, hl1, hl2, _⟩ := row_take O1
    have HO1 := Lib.hid O1; clear O1
    go_wp2_with fail
    refine (implShuffled_c x _ l _ (HO1.out.ext (Ext.alloc _ _)).view).mono ?_
    have hsl : diceOk x = true → l.length ≤ 64 → (shuffled x l).2.length = l.length ∧ (∀ y, (shuffled x l).2.count y = l.count y) ∧ diceOk (shuffled x l).1 = true := fun hd hl => by
      have e : shuffled x l = (stN x (l.length - 1), shufL x l (l.length - 1)) := by simp [shuffled, hd, hl]
      rw [e]
      exact ⟨shufL_len _ _ _, fun y => shufL_count x l _ (Nat.le_refl _) y, stN_ok hd _⟩
    have hsn : ¬ (diceOk x = true ∧ l.length ≤ 64) → (shuffled x l).2 = [] := fun hn => by
      unfold shuffled
      split
      · split
        · rename_i h1 h2; exact absurd ⟨h1, h2⟩ hn
        · rfl
      · rfl
    generalize shuffled x l = p at *
    obtain ⟨y, m⟩ := p
    simp only at hsl hsn ⊢
    rintro e w2 ⟨v2, rfl, X2, O2⟩
    obtain ⟨ma, mc, rfl, hm1, hm2, _⟩ := row_take O2
    have hX2 : Ext w1 w2 := (Ext.alloc _ _).trans X2
    have hW2 : Ext W w2 := X1.trans hX2
    have Bd : Bx w2 w1.heap.size [.int .i64 x] := Bx.ext (Bx.new _ _ _ _ rfl) X2
    have VL := Lib.hid ((HO1.out.ext hX2).view)
    have VM := Lib.hid O2.view
    have HX := Lib.hid hW2
    clear O2 X2 hX2 hW2 HO1 X1
    have c0 := Bd.cell 0 _ rfl
    have nd := Bd.lt
    have HSL := Lib.hid hsl; have HSN := Lib.hid hsn; clear hsl hsn
    by_cases hgood : diceOk x = true ∧ l.length ≤ 64
    rotate_left
    · have hm0 := HSN.out hgood
      subst hm0
      cases hd : diceOk x
      · go_wp2_with fail
        refine (specDiceOk_c x _).mono ?_
        rw [hd]
        rintro e w3 ⟨rfl, X3⟩
        go_wp2
        go_ret
        exact ⟨rfl, HX.out.trans (Ext.trans (Ext.alloc _ _) X3)⟩
      · have hl : (64 : Int) < l.length := by
          have : ¬ l.length ≤ 64 := fun h => hgood ⟨hd, h⟩
          omega
        go_wp2_with fail
        refine (specDiceOk_c x _).mono ?_
        rw [hd]
        rintro e w3 ⟨rfl, X3⟩
        go_wp2
        go_ret
        exact ⟨rfl, HX.out.trans (Ext.trans (Ext.alloc _ _) X3)⟩
    obtain ⟨hd, hl64⟩ := hgood
    obtain ⟨hml, hcnt, hok⟩ := HSL.out hd hl64
    have Hml := Lib.hid hml; have Hcnt := Lib.hid hcnt; have Hok := Lib.hid hok
    have hl64' : ¬ (64 : Int) < l.length := by omega
    clear HSL HSN hml hcnt hok
    go_wp2_with fail
    refine (specDiceOk_c x _).mono ?_
    rw [hd]
    rintro e w3 ⟨rfl, X3⟩
    have hX3 : Ext w2 w3 := (Ext.alloc _ _).trans X3
    have Be : Bx w3 w2.heap.size [.int .i64 y] := Bx.ext (Bx.new _ _ _ _ rfl) X3
    have VL3 := Lib.hid (rowC.vext VL.out hX3)
    have VM3 := Lib.hid (rowC.vext VM.out hX3)
    have HX3 := Lib.hid (HX.out.trans hX3)
    clear X3 hX3 VL VM HX Bd c0 nd
    go_wp2
    go_loopw [7, 8, 9, 10] (fun v7 _ _ _ wr => ∃ i : Nat, i ≤ l.length ∧ v7 = .int .i64 i ∧ Hid (Ext w3 wr)) (fun v7 _ _ _ _ => l.length - (intOf v7).toNat)
    case atStart => exact ⟨0, Nat.zero_le _, rfl, Ext.refl _⟩
    case round =>
      obtain ⟨i, hi, rfl, hE⟩ := hrel
      by_cases hlt : i < l.length
      · obtain ⟨la', lc', e1, _, _, hcl⟩ := row_open (rowC.vext VL3.out hE.out)
        cases e1
        obtain ⟨bi, oi, z, e2, hci, hz⟩ := hcl i hlt
        cases e2
        have hii1 : (0 : Int) ≤ i := by omega
        have hii2 : (i : Int) < l.length := by omega
        have Hci := Lib.hid hci
        clear hcl hci
        go_wp2
        go_loopw [8, 9, 10] (fun v8 v9 v10 wq => ∃ (k A B : Nat), k ≤ l.length ∧ v10 = .int .i64 k ∧ v8 = .int .i64 A ∧ v9 = .int .i64 B ∧ A ≤ k ∧ B ≤ k ∧ Hid (A = (l.take k).count z) ∧ Hid (B = (m.take k).count z) ∧ Hid (Ext wr wq)) (fun _ _ v10 _ => l.length - (intOf v10).toNat)
        case atStart => exact ⟨0, 0, 0, Nat.zero_le _, rfl, rfl, rfl, Nat.le_refl _, Nat.le_refl _, by simp [Hid], by simp [Hid], Ext.refl _⟩
        case round =>
          obtain ⟨k, A, B, hk, rfl, rfl, rfl, hAk, hBk, hA, hB, hE2⟩ := hrel
          have hE3 := hE.out.trans hE2.out
          have hcz := cell_ext Hci.out hE2.out
          by_cases hkl : k < l.length
          · have hkm : k < m.length := by rw [Hml.out]; exact hkl
            obtain ⟨l9, c9, e1, _, _, hcl⟩ := row_open (rowC.vext VL3.out hE3)
            cases e1
            obtain ⟨bk, ok, u, e2, hck, hu⟩ := hcl k hkl
            cases e2
            obtain ⟨m9, d9, e3, _, _, hcm⟩ := row_open (rowC.vext VM3.out hE3)
            cases e3
            obtain ⟨bm, om, t, e4, hcmk, ht⟩ := hcm k hkm
            cases e4
            clear hcl hcm
            have hk1 : (0 : Int) ≤ k := by omega
            have hk2 : (k : Int) < l.length := by omega
            have hk3 : (k : Int) < m.length := by omega
            have hk4 : l.length ≤ 64 := hl64
            have HA := Lib.hid hA.out; have HB := Lib.hid hB.out
            have hEX := Lib.hid hE2.out
            clear hA hB hE3 hE2
            by_cases e1 : u = z
            all_goals by_cases e2 : t = z
            all_goals
              first | (have q1 : (u == z) = true := by rw [beq_iff_eq]; exact e1) | (have q1 : (u == z) = false := by rw [beq_eq_false_iff_ne]; exact e1)
              first | (have q2 : (t == z) = true := by rw [beq_iff_eq]; exact e2) | (have q2 : (t == z) = false := by rw [beq_eq_false_iff_ne]; exact e2)
              have HE12 := Lib.hid (And.intro (count_take (y := z) hu) (count_take (y := z) ht))
              have Q1 := Lib.hid (And.intro (show decide (u = z) = _ from rfl) (show decide (t = z) = _ from rfl))
              have P1 := Lib.hid e1; have P2 := Lib.hid e2
              clear e1 e2
              go_wp2
              go_quiet (fail)
              go_wp2
              go_quiet (fail)
              go_wp2
              go_roundw
              case rel => first
                | exact ⟨k + 1, A + 1, B + 1, by omega, by go_num, valI (by push_cast; omega), valI (by push_cast; omega), by omega, by omega, Lib.hid (by rw [HE12.out.1, if_pos P1.out, HA.out]), Lib.hid (by rw [HE12.out.2, if_pos P2.out, HB.out]), Lib.hid (hEX.out.trans (Ext.drewN _ _))⟩
                | exact ⟨k + 1, A + 1, B, by omega, by go_num, valI (by push_cast; omega), valI (by push_cast; omega), by omega, by omega, Lib.hid (by rw [HE12.out.1, if_pos P1.out, HA.out]), Lib.hid (by rw [HE12.out.2, if_neg P2.out, Nat.add_zero]; exact HB.out), Lib.hid (hEX.out.trans (Ext.drewN _ _))⟩
                | exact ⟨k + 1, A, B + 1, by omega, by go_num, valI (by push_cast; omega), valI (by push_cast; omega), by omega, by omega, Lib.hid (by rw [HE12.out.1, if_neg P1.out, Nat.add_zero]; exact HA.out), Lib.hid (by rw [HE12.out.2, if_pos P2.out, HB.out]), Lib.hid (hEX.out.trans (Ext.drewN _ _))⟩
                | exact ⟨k + 1, A, B, by omega, by go_num, valI (by push_cast; omega), valI (by push_cast; omega), by omega, by omega, Lib.hid (by rw [HE12.out.1, if_neg P1.out, Nat.add_zero]; exact HA.out), Lib.hid (by rw [HE12.out.2, if_neg P2.out, Nat.add_zero]; exact HB.out), Lib.hid (hEX.out.trans (Ext.drewN _ _))⟩
              case measure => simp [intOf]; omega
          · have he : k = l.length := by omega
            subst he
            have hAB : A = B := by
              have h1 := hA.out
              have h2 := hB.out
              rw [List.take_length] at h1
              rw [← Hml.out, List.take_length] at h2
              rw [h1, h2, Hcnt.out]
            subst hAB
            have hEX := Lib.hid hE3
            clear hA hB hE3 hE2
            go_wp2
            go_roundw
            case rel => exact ⟨i + 1, by omega, by go_num, hEX⟩
            case measure => simp [intOf]; omega
      · have he : i = l.length := by omega
        subst he
        have hBe := Be.ext hE.out
        have c0 := hBe.cell 0 _ rfl
        have hq : ((m.length : Int) == (l.length : Int)) = true := by rw [beq_iff_eq, Hml.out]
        go_wp2_with fail
        refine (implDiceOk_c y _).mono ?_
        rw [Hok.out]
        rintro e w4 ⟨rfl, X4⟩
        go_wp2
        go_ret
        exact ⟨rfl, HX3.out.trans (hE.out.trans X4)⟩

set_option maxRecDepth 100000 in
theorem shuffles_holds : Rows.FnShufflesSaid :=
  OpenClaim.holds_of_wide 8 Try.f8 rfl rfl rfl rfl rfl rfl rfl ⟨rfl, rfl, rfl, rfl, rfl⟩ rfl rfl rfl rfl rfl (by kernel_rfl) Try.func8 (by kernel_rfl)
    (of_decide_eq_true (by kernel_rfl)) (by unfold Func.isWrapper; rw [if_neg (of_decide_eq_false (by kernel_rfl))]; exact ⟨rfl, rfl⟩)
    (fun os started H enc _ => law_lifted (C := Try.checked) (f := 8) (fn := Try.f8) (s := Rows.fnShufflesSpec) (tb := 4) Try.own started (by kernel_rfl) Try.func8 Try.laidOut (of_decide_eq_true (by kernel_rfl)) rfl Try.underlying4 rfl
      (fun ds h => by match ds, h with | [_], _ => exact ⟨rfl, rfl, rfl⟩)
      (ChangeSpec.witness6 (enc := enc) (C := Try.checked) false ⟨#[], #[.slice none 0 0], []⟩ 8 (by kernel_rfl) (by kernel_rfl) (by kernel_rfl) (by kernel_rfl))
      shuffles_c)

end Go.Proofs.Ytdkhghnhggedbaa
