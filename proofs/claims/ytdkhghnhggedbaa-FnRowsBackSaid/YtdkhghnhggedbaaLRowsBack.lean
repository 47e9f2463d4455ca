/- The law FnRowsBack is true for every input: it returns true, and what it was given reads as before. -/
import Derived.Test.YtdkhghnhggedbaaCod
import Derived.Test.YtdkhghnhggedbaaRol
import Derived.Test.YtdkhghnhggedbaaDr7
import Derived.Test.YtdkhghnhggedbaaDice2
set_option linter.unusedVariables false
set_option linter.unusedSimpArgs false
namespace Go.Proofs.Ytdkhghnhggedbaa
open Go.RowKit Go.Sl

theorem fold_ne : ∀ (l : List Int) (s t : Int), 0 ≤ s ∧ s < 999999937 → 0 ≤ t ∧ t < 999999937 → s ≠ t → l.foldl (fun s x => (131 * s + x + 1) % 999999937) s ≠ l.foldl (fun s x => (131 * s + x + 1) % 999999937) t
  | [], _, _, _, _, h => h
  | x :: l, s, t, hs, ht, h => fold_ne l _ _ (by dsimp only; omega) (by dsimp only; omega) (by dsimp only; omega)
theorem fold_set_ne : ∀ (l : List Int) (i : Nat) (v s : Int), (hi : i < l.length) → 0 ≤ s ∧ s < 999999937 → v ≠ l[i] → v - l[i] < 999999937 → l[i] - v < 999999937 → (l.set i v).foldl (fun s x => (131 * s + x + 1) % 999999937) s ≠ l.foldl (fun s x => (131 * s + x + 1) % 999999937) s
  | x :: l, 0, v, s, hi, hs, h, h1, h2 => by
    simp only [List.getElem_cons_zero] at h h1 h2
    exact fold_ne l _ _ (by dsimp only; omega) (by dsimp only; omega) (by dsimp only; omega)
  | x :: l, i + 1, v, s, hi, hs, h, h1, h2 => by
    simp only [List.getElem_cons_succ] at h h1 h2
    exact fold_set_ne l i v _ (by simpa using hi) (by dsimp only; omega) h h1 h2
/-- A row with its sum, bent at one place, is none. -/
theorem bent_wrong (l : List Int) (i : Nat) (v : Int) (hi : i < (l ++ [chk l]).length) (h : v ≠ (l ++ [chk l])[i]) (h1 : v - (l ++ [chk l])[i] < 999999937) (h2 : (l ++ [chk l])[i] - v < 999999937) : (unsum ((l ++ [chk l]).set i v)).2 = false := by
  rcases Nat.lt_or_ge i l.length with hl | hl
  · rw [List.getElem_append_left hl] at h h1 h2
    rw [List.set_append_left _ _ hl, unsum_snoc]
    have hne : chk (l.set i v) ≠ chk l := fold_set_ne l i v 7 hl (by omega) h h1 h2
    simp [hne]
  · have he : i = l.length := by simp at hi; omega
    subst he
    rw [List.getElem_append_right (Nat.le_refl _)] at h
    simp at h
    rw [List.set_append_right _ _ (Nat.le_refl _), Nat.sub_self]
    show (unsum (l ++ [v])).2 = false
    rw [unsum_snoc]
    have hne : ¬ chk l = v := fun e => h e.symm
    simp [hne]
theorem withSum_tell (l : List Int) : (withSum l = [] ∧ (rowOk l = false ∨ l.length = 48)) ∨ (withSum l = l ++ [chk l] ∧ rowOk l = true ∧ l.length < 48) := by
  unfold withSum
  split
  · rename_i h; simp at h; exact .inr ⟨rfl, h⟩
  · rename_i h
    refine .inl ⟨rfl, ?_⟩
    cases hr : rowOk l
    · exact .inl rfl
    · simp [hr] at h
      have := rowOk_len hr
      exact .inr (by omega)
theorem row_blk {lo hi : Nat} {w : World} {b o n c : Nat} {s : List Int} (h : rowC.own lo hi w [.slice (some ⟨b, o, none⟩) n c] s) : lo ≤ b ∧ b < hi := by
  obtain ⟨fp, ⟨a, cap, xs, fps, h1, _, _, _, _, rfl⟩, _, h3⟩ := h
  cases h1
  exact h3 b (by simp [ablk])
theorem isl_V {w : World} {a : Option Addr} {cap : Nat} {l : List Int} (h : ISl w a cap l) (h1 : l.length ≤ cap) (h2 : cap ≤ 9223372036854775807) : rowC.V w [.slice a l.length cap] l :=
  ⟨a, cap, _, rfl, h1, by simpa [maxLen] using h2, SlAt.cells h, elemsV_int.2 rfl⟩
theorem unsum_withSum {l : List Int} (hr : rowOk l = true) (hl : l.length < 48) : unsum (l ++ [chk l]) = (l, true) := by
  rw [unsum_snoc, if_pos]
  have hb := chk_bd l
  simp only [rowOk, Bool.and_eq_true, List.all_eq_true, decide_eq_true_eq, List.length_append, List.length_singleton, List.mem_append, List.mem_singleton] at hr ⊢
  refine ⟨⟨by omega, fun x hx => ?_⟩, trivial⟩
  rcases hx with hx | hx
  · exact hr.2 x hx
  · subst hx; simp [inRow, inB]; omega

set_option maxHeartbeats 4000000 in
set_option maxRecDepth 100000 in
theorem rowsback_c (W : World) (args : Array Value) (hs : args.size = 1) (h : ∀ (j : Nat) t v, Try.f10.params[j]? = some t → args[j]? = some v → ArgOk Try.prog W t v) :
    Calls Try.prog 10 args W fun e W' => e = .returned (.bool true) ∧ Ext W W' := by
  match args, hs with
  | ⟨[a0]⟩, _ =>
    obtain ⟨ca, n, cc, rfl, hn1, hn2, HC⟩ := arg_codeR (h 0 _ a0 rfl rfl)
    clear h
    by_cases hbig : n ≤ 4096
    rotate_left
    · have hb : decide ((4096 : Int) < n) = true := by rw [decide_eq_true_iff]; omega
      have Hb := Lib.hid hb; clear hb
      go_enter Try.func10, Try.ntmps10
      go_wp2_with (go_at_call 33; refine (big_c _ _ _ _).mono ?_; rw [Hb.out]; rintro e w' ⟨rfl, rfl⟩)
      go_ret
      exact ⟨rfl, Ext.refl _⟩
    have hb : decide ((4096 : Int) < n) = false := by rw [decide_eq_false_iff_not]; omega
    have Hb := Lib.hid hb; clear hb
    go_enter Try.func10, Try.ntmps10
    go_wp2_with fail
    refine (big_c _ _ _ _).mono ?_
    rw [Hb.out]
    rintro e w' ⟨rfl, rfl⟩
    go_wp2_with fail
    refine (drawWithSum_c n cc ca _ (by omega) (HBcode HC.out)).mono ?_
    rintro e w1 ⟨v1, l, rfl, hl49, -, O1, X1⟩
    obtain ⟨la, lc, rfl, hl1, hl2, -⟩ := row_take O1
    have z1 := X1.size
    have HO1 := Lib.hid O1; have HX1 := Lib.hid X1
    clear O1 X1
    go_wp2_with fail
    refine (implWithSum_c _ l _ HO1.out.view).mono ?_
    have ht := withSum_tell l
    generalize withSum l = s at ht ⊢
    rintro e w2 ⟨v2, rfl, X2, O2⟩
    obtain ⟨sa, sc, rfl, hs1, hs2, -⟩ := row_take O2
    have z2 := X2.size
    have HS := Lib.hid O2
    have HL := Lib.hid (HO1.out.ext X2)
    have HX2 := Lib.hid (HX1.out.trans X2)
    clear O2 X2 HO1 HX1
    rcases ht with ⟨rfl, ht⟩ | ⟨rfl, hrow, hl48⟩
    · cases hr : rowOk l
      · have Hr := Lib.hid hr; clear hr ht
        go_wp2_with fail
        refine (specRowOk_c _ l _ HL.out.view).mono ?_
        rw [Hr.out]
        rintro e w3 ⟨rfl, rfl⟩
        go_wp2
        go_ret
        exact ⟨rfl, HX2.out⟩
      · have h48 : ((l.length : Int) == 48) = true := by
          rcases ht with h | h
          · rw [hr] at h; cases h
          · rw [beq_iff_eq, h]; rfl
        have Hr := Lib.hid hr; clear hr ht
        go_wp2_with fail
        refine (specRowOk_c _ l _ HL.out.view).mono ?_
        rw [Hr.out]
        rintro e w3 ⟨rfl, rfl⟩
        go_wp2
        go_ret
        exact ⟨rfl, HX2.out⟩
    · have hU := unsum_withSum hrow hl48
      have hbw := bent_wrong l
      have hbd := chk_bd l
      have hmem : ∀ (k : Nat) (z : Int), (l ++ [chk l])[k]? = some z → 0 ≤ z ∧ z ≤ 1000000000 := fun k z hz => by
        have := List.mem_of_getElem? hz
        rcases List.mem_append.1 this with h | h
        · exact rowOk_mem hrow h
        · rw [List.mem_singleton.1 h]; omega
      have hsl : (l ++ [chk l]).length = l.length + 1 := by simp
      generalize l ++ [chk l] = s at *
      have hz0 : ((s.length : Int) == 0) = false := by rw [beq_eq_false_iff_ne]; omega
      have hsl0 : 0 < s.length := by omega
      have hsl1 : s.length ≤ 48 := by omega
      clear hsl
      have HU := Lib.hid hU; have HBW := Lib.hid hbw; have HM := Lib.hid hmem
      clear hU hbw hmem hrow hbd
      go_wp2_with fail
      refine (implUnsummed_c _ s _ HS.out.view).mono ?_
      rw [HU.out]
      rintro e w3 ⟨v3, rfl, X3, O3⟩
      obtain ⟨ua, uc, rfl, hu1, hu2, -⟩ := row_take O3
      have z3 := X3.size
      have HS3 := Lib.hid (HS.out.ext X3); have HL3 := Lib.hid (HL.out.ext X3)
      have HU3 := Lib.hid O3
      have HX3 := Lib.hid (HX2.out.trans X3)
      clear X3 O3 HS HL HX2 HU
      go_wp2_with fail
      refine (roll_c n cc ca 505 _ hbig (HC.out.ext HX3.out)).mono ?_
      rintro e w4 ⟨db, rfl, hdb, hD, -, X4⟩
      have z4 := X4.size
      have hdl : db < w4.heap.size := hD.lt
      have hdW : W.heap.size ≤ db := by have := HX3.out.size; omega
      have HS4 := Lib.hid (HS3.out.ext X4); have HL4 := Lib.hid (HL3.out.ext X4); have HU4 := Lib.hid (HU3.out.ext X4)
      have HX4 := Lib.hid (HX3.out.trans X4)
      clear X4
      go_wp2_with fail
      refine (below_c db n cc ca _ _ (by omega) hD (CodeD.of HC.out HX4.out hdW)).mono ?_
      rintro e w5 ⟨i, hi0, hi1, rfl, hD5, hC5⟩
      obtain ⟨i, rfl⟩ := Int.eq_ofNat_of_zero_le hi0
      have z5 := hC5.size
      have HS5 := Lib.hid (HS4.out.chg hC5 (by omega)); have HL5 := Lib.hid (HL4.out.chg hC5 (by omega)); have HU5 := Lib.hid (HU4.out.chg hC5 (by omega))
      have HX5 := Lib.hid (Chg.ext HX4.out hC5 (by omega))
      obtain ⟨a9, c9, e9, -, -, hcs⟩ := row_cells HS5.out.view
      cases e9
      have HCS := Lib.hid hcs; have HD5 := Lib.hid hD5
      clear hcs hD5 hC5 hD HS3 HL3 HU3 HS4 HL4 HU4 HX4 HX3
      go_wp2_with (at_builtin; refine wpList_append_ints _ rfl _ _ _ rfl 2 Try.underlying25 Try.infoI _ _ _ [] rfl rfl (ISl.lit _ [] _ _ rfl) (Nat.le_refl _) (by omega) _ _ _ s rfl rfl (HCS.out.ext (Ext.alloc _ _)) (by omega) ?_)
      intro a6 c6 w6 hI hle hm hw
      (try simp only [List.length_nil, Nat.zero_add, List.nil_append] at hI hle)
      (try simp only [List.length_nil, Nat.zero_add])
      have X6 : Ext w5 w6 := hw.ext (Ext.alloc _ _) (by simp [ablk])
      have hat : ∀ b ∈ ablk a6, w5.heap.size ≤ b := fun b hb => by rcases hw.mem hb with h9 | ⟨h9, _⟩ <;> (try simp [ablk] at h9) <;> omega
      obtain ⟨b6, o6, rfl⟩ := hI.some (by omega)
      have hb6 := hat b6 (by simp [ablk])
      have z6 := X6.size
      have hs0 : i < s.length := by omega
      obtain ⟨⟨z, hc6, hz⟩, -, -⟩ := hI.store hs0
      obtain ⟨hz0', hz1⟩ := HM.out i z hz.out
      have hzi : s[i] = z := by have := hz.out; rw [List.getElem?_eq_getElem hs0] at this; exact Option.some.inj this
      have HZ := Lib.hid hz.out
      have HBI : Hid (∀ v, v ≠ z → v - z < 999999937 → z - v < 999999937 → (unsum (s.set i v)).2 = false) := fun v h1 h2 h3 => HBW.out i v hs0 (by rw [hzi]; exact h1) (by rw [hzi]; exact h2) (by rw [hzi]; exact h3)
      have HI := Lib.hid hI
      have hw1 : IntKind.i64.wrap (z + 1) = z + 1 := IntWalk.i64_in _ (by omega)
      have hw2 : IntKind.i64.wrap (z - 1) = z - 1 := IntWalk.i64_in _ (by omega)
      have hii1 : (0 : Int) ≤ i := by omega
      have hii2 : (i : Int) < s.length := by omega
      have HX6 := Lib.hid (HX5.out.trans X6)
      have HS6 := Lib.hid (HS5.out.ext X6); have HL6 := Lib.hid (HL5.out.ext X6); have HU6 := Lib.hid (HU5.out.ext X6)
      clear hz hzi HBW hI hat hw HS5 HL5 HU5 HCS HM
      have XX6 := HX6.out
      go_wp2
      refine wp_region_T (S := fun ω => ω.cell? ⟨b6, o6 + i, none⟩ = some (.int .i64 z) ∧ Ext W ω) 11 (by kernel_rfl) ?_ (fun hHeld => ?_) (by decide)
      · (try dsimp only); (refine ⟨?_, ?_⟩ <;> first | (simp [go_sem]; done) | (simp [*, go_sem]; done) | ((repeat (first | with_reducible assumption | with_reducible exact Bx.new _ _ _ _ rfl | ((with_reducible refine Bx.new _ _ _ _ ?_); simp; done) | with_reducible refine Bx.pAlloc ?_ _ | with_reducible refine Bx.pDrew ?_ | with_reducible refine Bx.pDrewN ?_ _ | with_reducible apply Bx.set10 | with_reducible apply Bx.set20 | with_reducible apply Bx.set21 | with_reducible apply Bx.set30 | with_reducible apply Bx.set31 | with_reducible apply Bx.set32 | with_reducible apply Bx.set40 | with_reducible apply Bx.set41 | with_reducible apply Bx.set42 | with_reducible apply Bx.set43 | ((with_reducible refine Bx.set_other ?_ ?_ _); rotate_left; (simp <;> omega)))); done) | ((repeat (first | with_reducible exact Ext.refl _ | with_reducible assumption | with_reducible refine Ext.pAlloc ?_ _ | ((with_reducible refine Ext.pSet ?_ ?_ _); rotate_left; (simp <;> omega)) | with_reducible refine Ext.pDrew ?_ | with_reducible refine Ext.pDrewN ?_ _)); done))
      refine wpT_take (i := 0) (v := ?_) rfl (by kernel_rfl) (by decide) (by kernel_rfl) (by kernel_rfl) (by kernel_rfl) (fun _ _ _ h => h) (Or.inl ⟨by rfl, ?_⟩) (by assumption) ?_
      rotate_left
      · intro w9 hSw; (try dsimp only at hSw); go_simp; (first | done | with_reducible rfl)
      (try simp only [List.getElem_toArray, List.getElem_cons_succ, List.getElem_cons_zero, Act.put, List.setIfInBounds_toArray, List.set_cons_zero, List.set_cons_succ])
      refine wpT_take (i := 1) (v := ?_) rfl (by kernel_rfl) (by decide) (by kernel_rfl) (by kernel_rfl) (by kernel_rfl) (fun _ _ _ h => h) (Or.inl ⟨by rfl, ?_⟩) (by assumption) ?_
      rotate_left
      · intro w9 hSw; (try dsimp only at hSw); go_simp; (first | done | with_reducible rfl)
      (try simp only [List.getElem_toArray, List.getElem_cons_succ, List.getElem_cons_zero, Act.put, List.setIfInBounds_toArray, List.set_cons_zero, List.set_cons_succ])
      refine wpT_take (i := 2) (v := ?_) rfl (by kernel_rfl) (by decide) (by kernel_rfl) (by kernel_rfl) (by kernel_rfl) (fun _ _ _ h => h) (Or.inl ⟨by rfl, ?_⟩) (by assumption) ?_
      rotate_left
      · intro w9 hSw; (try dsimp only at hSw); go_simp; (first | done | with_reducible rfl)
      (try simp only [List.getElem_toArray, List.getElem_cons_succ, List.getElem_cons_zero, Act.put, List.setIfInBounds_toArray, List.set_cons_zero, List.set_cons_succ])
      refine wpT_take (i := 3) (v := ?_) rfl (by kernel_rfl) (by decide) (by kernel_rfl) (by kernel_rfl) (by kernel_rfl) (fun _ _ _ h => h) (Or.inl ⟨by rfl, ?_⟩) (by assumption) ?_
      rotate_left
      · intro w9 hSw; (try dsimp only at hSw); go_simp; (first | done | with_reducible rfl)
      (try simp only [List.getElem_toArray, List.getElem_cons_succ, List.getElem_cons_zero, Act.put, List.setIfInBounds_toArray, List.set_cons_zero, List.set_cons_succ])
      refine wpT_take (i := 4) (v := ?_) rfl (by kernel_rfl) (by decide) (by kernel_rfl) (by kernel_rfl) (by kernel_rfl) (fun _ _ _ h => h) (Or.inl ⟨by rfl, ?_⟩) (by assumption) ?_
      rotate_left
      · intro w9 hSw; (try dsimp only at hSw); go_simp; (first | done | with_reducible rfl)
      (try simp only [List.getElem_toArray, List.getElem_cons_succ, List.getElem_cons_zero, Act.put, List.setIfInBounds_toArray, List.set_cons_zero, List.set_cons_succ])
      refine wpT_take (i := 5) (v := ?_) rfl (by kernel_rfl) (by decide) (by kernel_rfl) (by kernel_rfl) (by kernel_rfl) (fun _ _ _ h => h) (Or.inl ⟨by rfl, ?_⟩) (by assumption) ?_
      rotate_left
      · intro w9 hSw; (try dsimp only at hSw); go_simp; (first | done | with_reducible rfl)
      (try simp only [List.getElem_toArray, List.getElem_cons_succ, List.getElem_cons_zero, Act.put, List.setIfInBounds_toArray, List.set_cons_zero, List.set_cons_succ])
      refine wpT_take (i := 6) (v := ?_) rfl (by kernel_rfl) (by decide) (by kernel_rfl) (by kernel_rfl) (by kernel_rfl) (fun _ _ _ h => h) (Or.inl ⟨by rfl, ?_⟩) (by assumption) ?_
      rotate_left
      · intro w9 hSw; (try dsimp only at hSw); go_simp; (first | done | with_reducible rfl)
      (try simp only [List.getElem_toArray, List.getElem_cons_succ, List.getElem_cons_zero, Act.put, List.setIfInBounds_toArray, List.set_cons_zero, List.set_cons_succ])
      refine wpT_take (i := 7) (v := ?_) rfl (by kernel_rfl) (by decide) (by kernel_rfl) (by kernel_rfl) (by kernel_rfl) (fun _ _ _ h => h) (Or.inl ⟨by rfl, ?_⟩) (by assumption) ?_
      rotate_left
      · intro w9 hSw; (try dsimp only at hSw); go_simp; (first | done | with_reducible rfl)
      (try simp only [List.getElem_toArray, List.getElem_cons_succ, List.getElem_cons_zero, Act.put, List.setIfInBounds_toArray, List.set_cons_zero, List.set_cons_succ])
      refine wpT_step (i := 8) (by kernel_rfl) (by decide) rfl (fun K hK => ?_)
      go_simp
      refine (below_c db n cc ca 999999 _ (by decide) (RD.ext HD5.out (by repeat (first | with_reducible exact Ext.refl _ | with_reducible assumption | with_reducible refine Ext.pAlloc ?_ _ | ((with_reducible refine Ext.pSet ?_ ?_ _); rotate_left; (simp <;> omega)) | with_reducible refine Ext.pDrew ?_ | with_reducible refine Ext.pDrewN ?_ _))) (CodeD.of HC.out (by repeat (first | with_reducible exact Ext.refl _ | with_reducible assumption | with_reducible refine Ext.pAlloc ?_ _ | ((with_reducible refine Ext.pSet ?_ ?_ _); rotate_left; (simp <;> omega)) | with_reducible refine Ext.pDrew ?_ | with_reducible refine Ext.pDrewN ?_ _)) hdW)).mono ?_
      rintro e w7 ⟨y, hy0, hy1, rfl, hD7, hC7⟩
      have hwy : IntKind.i64.wrap (z + 1 + y) = z + 1 + y := IntWalk.i64_in _ (by omega)
      have hI7 := ISl.chg (ISl.ext HI.out (by exact Ext.drew _)) hC7 (by simp [ablk]; omega)
      obtain ⟨⟨z7, hc7, -⟩, hf7, hst⟩ := hI7.store hs0
      have hC7p : Chg db (db + 1) w6 w7 := ((Ext.drew _).chg _ _).trans hC7
      (try go_wp2_with fail)
      refine hK.out _ _ ?_ (fun hHeld2 => ?_)
      · (try dsimp only); (obtain ⟨s0, s1⟩ := hHeld; exact ⟨cell_chg s0 hC7 (by omega), Chg.ext s1 hC7 (by omega)⟩)
      clear hK K hHeld
      rename _ => hHeld
      (try simp only [List.getElem_toArray, List.getElem_cons_succ, List.getElem_cons_zero, Act.put, List.setIfInBounds_toArray, List.set_cons_zero, List.set_cons_succ])
      refine wpT_take (i := 9) (v := ?_) rfl (by kernel_rfl) (by decide) (by kernel_rfl) (by kernel_rfl) (by kernel_rfl) (fun _ _ _ h => h) (Or.inl ⟨by rfl, ?_⟩) (by assumption) ?_
      rotate_left
      · intro w9 hSw; (try dsimp only at hSw); go_simp; (first | done | with_reducible rfl)
      (try simp only [List.getElem_toArray, List.getElem_cons_succ, List.getElem_cons_zero, Act.put, List.setIfInBounds_toArray, List.set_cons_zero, List.set_cons_succ])
      refine wpT_take (i := 10) (v := ?_) rfl (by kernel_rfl) (by decide) (by kernel_rfl) (by kernel_rfl) (by kernel_rfl) (fun _ _ _ h => h) (Or.inl ⟨by rfl, ?_⟩) (by assumption) ?_
      rotate_left
      · intro w9 hSw; (try dsimp only at hSw); go_simp; (first | done | with_reducible rfl)
      (try simp only [List.getElem_toArray, List.getElem_cons_succ, List.getElem_cons_zero, Act.put, List.setIfInBounds_toArray, List.set_cons_zero, List.set_cons_succ])
      refine wpT_last (by kernel_rfl) (by kernel_rfl) rfl (fun K hK => ?_)
      clear hHeld
      go_simp
      refine hK.out _ _ ?_
      clear hK K
      have z7 := hC7.size
      have HS7 := Lib.hid (HS6.out.chg hC7p (by omega)); have HL7 := Lib.hid (HL6.out.chg hC7p (by omega)); have HU7 := Lib.hid (HU6.out.chg hC7p (by omega))
      have HX7 := Lib.hid (Chg.ext HX6.out hC7p (by omega))
      have hC8 := (hst (z + 1 + y)).2
      have HI8 := Lib.hid (hst (z + 1 + y)).1
      have HS8 := Lib.hid (HS7.out.chg hC8 (by omega)); have HL8 := Lib.hid (HL7.out.chg hC8 (by omega)); have HU8 := Lib.hid (HU7.out.chg hC8 (by omega))
      have HX8 := Lib.hid (Chg.ext HX7.out hC8 (by omega))
      have HD8 := Lib.hid (RD.chg hD7 hC8 (by omega))
      have z8 := hC8.size
      have hc8 : (w7.setCell ⟨b6, o6 + i, none⟩ (.int .i64 (z + 1 + y))).cell? ⟨b6, o6 + i, none⟩ = some (.int .i64 (z + 1 + y)) := by
        obtain ⟨⟨u, h1, h2⟩, -, -⟩ := HI8.out.store (j := i) (by rw [List.length_set]; exact hs0)
        have h2 := h2.out
        rw [List.getElem?_set_self hs0] at h2
        cases h2
        exact h1
      clear hst HS7 HL7 HU7 HX7 HS6 HL6 HU6 hC8 hC7 hC7p hI7 hc7 hf7 hD7 HI HX6 XX6 hc6 HD5 X6 hwy
      generalize w7.setCell ⟨b6, o6 + i, none⟩ (.int .i64 (z + 1 + y)) = w8 at *
      by_cases hgt : (1000000000 : Int) < z + 1 + y
      · obtain ⟨bs, os, zs, hsa, hcs8, hzs⟩ : ∃ bs os x, sa = some ⟨bs, os, none⟩ ∧ w8.cell? ⟨bs, os + i, none⟩ = some (.int .i64 x) ∧ Hid (s[i]? = some x) := by
          obtain ⟨a9, c9, e9, -, -, hc9⟩ := row_open HS8.out.view
          cases e9
          exact hc9 i hs0
        subst hsa
        have hbs := row_blk HS8.out
        obtain rfl : z = zs := by have h1 := HZ.out; have h2 := hzs.out; rw [h1] at h2; exact Option.some.inj h2
        have XX8 := HX8.out
        clear hzs
        go_wp2
        refine wp_region_T (S := fun ω => ω.cell? ⟨bs, os + i, none⟩ = some (.int .i64 z) ∧ Ext W ω) 11 (by kernel_rfl) ?_ (fun hHeld => ?_) (by decide)
        · (try dsimp only); (refine ⟨?_, ?_⟩ <;> first | (simp [go_sem]; done) | (simp [*, go_sem]; done) | ((repeat (first | with_reducible assumption | with_reducible exact Bx.new _ _ _ _ rfl | ((with_reducible refine Bx.new _ _ _ _ ?_); simp; done) | with_reducible refine Bx.pAlloc ?_ _ | with_reducible refine Bx.pDrew ?_ | with_reducible refine Bx.pDrewN ?_ _ | with_reducible apply Bx.set10 | with_reducible apply Bx.set20 | with_reducible apply Bx.set21 | with_reducible apply Bx.set30 | with_reducible apply Bx.set31 | with_reducible apply Bx.set32 | with_reducible apply Bx.set40 | with_reducible apply Bx.set41 | with_reducible apply Bx.set42 | with_reducible apply Bx.set43 | ((with_reducible refine Bx.set_other ?_ ?_ _); rotate_left; (simp <;> omega)))); done) | ((repeat (first | with_reducible exact Ext.refl _ | with_reducible assumption | with_reducible refine Ext.pAlloc ?_ _ | ((with_reducible refine Ext.pSet ?_ ?_ _); rotate_left; (simp <;> omega)) | with_reducible refine Ext.pDrew ?_ | with_reducible refine Ext.pDrewN ?_ _)); done))
        refine wpT_take (i := 0) (v := ?_) rfl (by kernel_rfl) (by decide) (by kernel_rfl) (by kernel_rfl) (by kernel_rfl) (fun _ _ _ h => h) (Or.inl ⟨by rfl, ?_⟩) (by assumption) ?_
        rotate_left
        · intro w9 hSw; (try dsimp only at hSw); go_simp; (first | done | with_reducible rfl)
        (try simp only [List.getElem_toArray, List.getElem_cons_succ, List.getElem_cons_zero, Act.put, List.setIfInBounds_toArray, List.set_cons_zero, List.set_cons_succ])
        refine wpT_take (i := 1) (v := ?_) rfl (by kernel_rfl) (by decide) (by kernel_rfl) (by kernel_rfl) (by kernel_rfl) (fun _ _ _ h => h) (Or.inl ⟨by rfl, ?_⟩) (by assumption) ?_
        rotate_left
        · intro w9 hSw; (try dsimp only at hSw); go_simp; (first | done | with_reducible rfl)
        (try simp only [List.getElem_toArray, List.getElem_cons_succ, List.getElem_cons_zero, Act.put, List.setIfInBounds_toArray, List.set_cons_zero, List.set_cons_succ])
        refine wpT_take (i := 2) (v := ?_) rfl (by kernel_rfl) (by decide) (by kernel_rfl) (by kernel_rfl) (by kernel_rfl) (fun _ _ _ h => h) (Or.inl ⟨by rfl, ?_⟩) (by assumption) ?_
        rotate_left
        · intro w9 hSw; (try dsimp only at hSw); go_simp; (first | done | with_reducible rfl)
        (try simp only [List.getElem_toArray, List.getElem_cons_succ, List.getElem_cons_zero, Act.put, List.setIfInBounds_toArray, List.set_cons_zero, List.set_cons_succ])
        refine wpT_take (i := 3) (v := ?_) rfl (by kernel_rfl) (by decide) (by kernel_rfl) (by kernel_rfl) (by kernel_rfl) (fun _ _ _ h => h) (Or.inl ⟨by rfl, ?_⟩) (by assumption) ?_
        rotate_left
        · intro w9 hSw; (try dsimp only at hSw); go_simp; (first | done | with_reducible rfl)
        (try simp only [List.getElem_toArray, List.getElem_cons_succ, List.getElem_cons_zero, Act.put, List.setIfInBounds_toArray, List.set_cons_zero, List.set_cons_succ])
        refine wpT_take (i := 4) (v := ?_) rfl (by kernel_rfl) (by decide) (by kernel_rfl) (by kernel_rfl) (by kernel_rfl) (fun _ _ _ h => h) (Or.inl ⟨by rfl, ?_⟩) (by assumption) ?_
        rotate_left
        · intro w9 hSw; (try dsimp only at hSw); go_simp; (first | done | with_reducible rfl)
        (try simp only [List.getElem_toArray, List.getElem_cons_succ, List.getElem_cons_zero, Act.put, List.setIfInBounds_toArray, List.set_cons_zero, List.set_cons_succ])
        refine wpT_take (i := 5) (v := ?_) rfl (by kernel_rfl) (by decide) (by kernel_rfl) (by kernel_rfl) (by kernel_rfl) (fun _ _ _ h => h) (Or.inl ⟨by rfl, ?_⟩) (by assumption) ?_
        rotate_left
        · intro w9 hSw; (try dsimp only at hSw); go_simp; (first | done | with_reducible rfl)
        (try simp only [List.getElem_toArray, List.getElem_cons_succ, List.getElem_cons_zero, Act.put, List.setIfInBounds_toArray, List.set_cons_zero, List.set_cons_succ])
        refine wpT_take (i := 6) (v := ?_) rfl (by kernel_rfl) (by decide) (by kernel_rfl) (by kernel_rfl) (by kernel_rfl) (fun _ _ _ h => h) (Or.inl ⟨by rfl, ?_⟩) (by assumption) ?_
        rotate_left
        · intro w9 hSw; (try dsimp only at hSw); go_simp; (first | done | with_reducible rfl)
        (try simp only [List.getElem_toArray, List.getElem_cons_succ, List.getElem_cons_zero, Act.put, List.setIfInBounds_toArray, List.set_cons_zero, List.set_cons_succ])
        refine wpT_take (i := 7) (v := ?_) rfl (by kernel_rfl) (by decide) (by kernel_rfl) (by kernel_rfl) (by kernel_rfl) (fun _ _ _ h => h) (Or.inl ⟨by rfl, ?_⟩) (by assumption) ?_
        rotate_left
        · intro w9 hSw; (try dsimp only at hSw); go_simp; (first | done | with_reducible rfl)
        (try simp only [List.getElem_toArray, List.getElem_cons_succ, List.getElem_cons_zero, Act.put, List.setIfInBounds_toArray, List.set_cons_zero, List.set_cons_succ])
        refine wpT_step (i := 8) (by kernel_rfl) (by decide) rfl (fun K hK => ?_)
        go_simp
        refine (below_c db n cc ca 999999 _ (by decide) (RD.ext HD8.out (by repeat (first | with_reducible exact Ext.refl _ | with_reducible assumption | with_reducible refine Ext.pAlloc ?_ _ | ((with_reducible refine Ext.pSet ?_ ?_ _); rotate_left; (simp <;> omega)) | with_reducible refine Ext.pDrew ?_ | with_reducible refine Ext.pDrewN ?_ _))) (CodeD.of HC.out (by repeat (first | with_reducible exact Ext.refl _ | with_reducible assumption | with_reducible refine Ext.pAlloc ?_ _ | ((with_reducible refine Ext.pSet ?_ ?_ _); rotate_left; (simp <;> omega)) | with_reducible refine Ext.pDrew ?_ | with_reducible refine Ext.pDrewN ?_ _)) hdW)).mono ?_
        rintro e w9 ⟨y2, hy20, hy21, rfl, hD9, hC9⟩
        have hwy2 : IntKind.i64.wrap (z - 1 - y2) = z - 1 - y2 := IntWalk.i64_in _ (by omega)
        have hI9 := ISl.chg (ISl.ext HI8.out (by exact Ext.drew _)) hC9 (by simp [ablk]; omega)
        obtain ⟨⟨z9, hc9, -⟩, hf9, hst⟩ := hI9.store (j := i) (by rw [List.length_set]; exact hs0)
        have hC9p : Chg db (db + 1) w8 w9 := ((Ext.drew _).chg _ _).trans hC9
        (try go_wp2_with fail)
        refine hK.out _ _ ?_ (fun hHeld2 => ?_)
        · (try dsimp only); (obtain ⟨s0, s1⟩ := hHeld; exact ⟨cell_chg s0 hC9 (by omega), Chg.ext s1 hC9 (by omega)⟩)
        clear hK K hHeld
        rename _ => hHeld
        (try simp only [List.getElem_toArray, List.getElem_cons_succ, List.getElem_cons_zero, Act.put, List.setIfInBounds_toArray, List.set_cons_zero, List.set_cons_succ])
        refine wpT_take (i := 9) (v := ?_) rfl (by kernel_rfl) (by decide) (by kernel_rfl) (by kernel_rfl) (by kernel_rfl) (fun _ _ _ h => h) (Or.inl ⟨by rfl, ?_⟩) (by assumption) ?_
        rotate_left
        · intro w9 hSw; (try dsimp only at hSw); go_simp; (first | done | with_reducible rfl)
        (try simp only [List.getElem_toArray, List.getElem_cons_succ, List.getElem_cons_zero, Act.put, List.setIfInBounds_toArray, List.set_cons_zero, List.set_cons_succ])
        refine wpT_take (i := 10) (v := ?_) rfl (by kernel_rfl) (by decide) (by kernel_rfl) (by kernel_rfl) (by kernel_rfl) (fun _ _ _ h => h) (Or.inl ⟨by rfl, ?_⟩) (by assumption) ?_
        rotate_left
        · intro w9 hSw; (try dsimp only at hSw); go_simp; (first | done | with_reducible rfl)
        (try simp only [List.getElem_toArray, List.getElem_cons_succ, List.getElem_cons_zero, Act.put, List.setIfInBounds_toArray, List.set_cons_zero, List.set_cons_succ])
        refine wpT_last (by kernel_rfl) (by kernel_rfl) rfl (fun K hK => ?_)
        clear hHeld
        go_simp
        refine hK.out _ _ ?_
        clear hK K
        have z9 := hC9.size
        have HS9 := Lib.hid (HS8.out.chg hC9p (by omega)); have HL9 := Lib.hid (HL8.out.chg hC9p (by omega)); have HU9 := Lib.hid (HU8.out.chg hC9p (by omega))
        have HX9 := Lib.hid (Chg.ext HX8.out hC9p (by omega))
        have hC10 := (hst (z - 1 - y2)).2
        have HI10 := Lib.hid (hst (z - 1 - y2)).1
        have HL10 := Lib.hid (HL9.out.chg hC10 (by omega)); have HU10 := Lib.hid (HU9.out.chg hC10 (by omega))
        have HX10 := Lib.hid (Chg.ext HX9.out hC10 (by omega))
        have hb := HBI.out (z - 1 - y2) (by omega) (by omega) (by omega)
        rw [← List.set_set (a := z + 1 + y)] at hb
        have Hb9 := Lib.hid hb
        clear hst HS9 HL9 HU9 HX9 HS8 HL8 HU8 hC10 hC9 hC9p hI9 hc9 hf9 hD9 HI8 HX8 XX8 hc8 HD8 hwy2 hb hcs8
        generalize w9.setCell ⟨b6, o6 + i, none⟩ (.int .i64 (z - 1 - y2)) = w10 at *
        have hl10 : ((s.set i (z + 1 + y)).set i (z - 1 - y2)).length = s.length := by rw [List.length_set, List.length_set]
        generalize (s.set i (z + 1 + y)).set i (z - 1 - y2) = m at *
        have HM := Lib.hid (And.intro hl10 HI10.out)
        clear hl10 HI10 HBI
        have HV : Hid (rowC.V w10 [.slice (some ⟨b6, o6, none⟩) s.length c6] m) := by
          obtain ⟨h1, h2⟩ := HM.out
          rw [← h1]
          exact isl_V h2 (by rw [h1]; exact hle) hm
        clear HM
        go_wp2_with fail
        refine (implUnsummed_c _ m _ HV.out).mono ?_
        rw [Hb9.out]
        rintro e w11 ⟨v11, rfl, X11, -⟩
        have HL11 := Lib.hid (HL10.out.ext X11); have HU11 := Lib.hid (HU10.out.ext X11)
        have HX11 := Lib.hid (HX10.out.trans X11)
        clear X11 HL10 HU10 HX10 HV Hb9
        go_wp2_with fail
        refine (likeInts_c _ _ l l _ HU11.out.view HL11.out.view).mono ?_
        rw [decide_eq_true rfl]
        rintro e w12 ⟨rfl, X12⟩
        go_wp2
        go_ret
        exact ⟨rfl, HX11.out.trans X12⟩
      · have hb := HBI.out (z + 1 + y) (by omega) (by omega) (by omega)
        have Hb9 := Lib.hid hb
        clear hb
        have hl10 : (s.set i (z + 1 + y)).length = s.length := by rw [List.length_set]
        generalize s.set i (z + 1 + y) = m at *
        have HM := Lib.hid (And.intro hl10 HI8.out)
        clear hl10 HI8 HBI HS8 HD8
        have HV : Hid (rowC.V w8 [.slice (some ⟨b6, o6, none⟩) s.length c6] m) := by
          obtain ⟨h1, h2⟩ := HM.out
          rw [← h1]
          exact isl_V h2 (by rw [h1]; exact hle) hm
        clear HM
        go_wp2_with fail
        refine (implUnsummed_c _ m _ HV.out).mono ?_
        rw [Hb9.out]
        rintro e w11 ⟨v11, rfl, X11, -⟩
        have HL11 := Lib.hid (HL8.out.ext X11); have HU11 := Lib.hid (HU8.out.ext X11)
        have HX11 := Lib.hid (HX8.out.trans X11)
        clear X11 HL8 HU8 HX8 HV Hb9
        go_wp2_with fail
        refine (likeInts_c _ _ l l _ HU11.out.view HL11.out.view).mono ?_
        rw [decide_eq_true rfl]
        rintro e w12 ⟨rfl, X12⟩
        go_wp2
        go_ret
        exact ⟨rfl, HX11.out.trans X12⟩

set_option maxRecDepth 100000 in
theorem rowsback_holds : Rows.FnRowsBackSaid :=
  OpenClaim.holds_of_wide 10 Try.f10 rfl rfl rfl rfl rfl rfl rfl ⟨rfl, rfl, rfl, rfl, rfl⟩ rfl rfl rfl rfl rfl (by kernel_rfl) Try.func10 (by kernel_rfl)
    (of_decide_eq_true (by kernel_rfl)) (by unfold Func.isWrapper; rw [if_neg (of_decide_eq_false (by kernel_rfl))]; exact ⟨rfl, rfl⟩)
    (fun os started H enc _ => law_lifted (C := Try.checked) (f := 10) (fn := Try.f10) (s := Rows.fnRowsBackSpec) (tb := 4) Try.own started (by kernel_rfl) Try.func10 Try.laidOut (of_decide_eq_true (by kernel_rfl)) rfl Try.underlying4 rfl
      (fun ds h => by match ds, h with | [_], _ => exact ⟨rfl, rfl, rfl⟩)
      (ChangeSpec.witness6 (enc := enc) (C := Try.checked) false ⟨#[], #[.slice none 0 0], []⟩ 8 (by kernel_rfl) (by kernel_rfl) (by kernel_rfl) (by kernel_rfl))
      rowsback_c)

end Go.Proofs.Ytdkhghnhggedbaa
