/- The law FnDiceAgain is true for every input: it returns true, and what it was given reads as before. -/
import Derived.Test.YtdkhghnhggedbaaCod
import Derived.Test.YtdkhghnhggedbaaDr8
import Derived.Test.YtdkhghnhggedbaaDice2
import Derived.Laws.StructEq
set_option linter.unusedVariables false
set_option linter.unusedSimpArgs false
namespace Go.Proofs.Ytdkhghnhggedbaa
open Go.RowKit Go.Sl

set_option maxRecDepth 20000 in
theorem dice_eqi (a c : Int) (w : World) : (Op.equalIn 10000 24 (.agg #[.int .i64 a]) (.agg #[.int .i64 c])).run Try.prog w = .ok (decide (a = c)) w := by
  have hS : Try.prog.underlying 24 = some (.struct (Try.prog.fieldsOf 24)) := by kernel_rfl
  have hp : Try.prog.stoodInHeld 24 = false := by kernel_rfl
  rw [show (10000 : Nat) = 9999 + 1 from rfl, run_equalIn_agg w 9999 24 _ _ hS hp]
  simp only [Program.fieldsOf, Try.underlying24]
  go_simp
  by_cases h1 : a = c <;> simp [h1]
theorem dice_eql (a : Int) (w : World) : (binOp .eql 24 (.agg #[.int .i64 a]) (.agg #[.int .i64 a])).run Try.prog w = .ok (.bool true) w := by
  rw [run_eql_struct, dice_eqi]; simp
theorem dice_neq (a : Int) (w : World) : (binOp .neq 24 (.agg #[.int .i64 a]) (.agg #[.int .i64 a])).run Try.prog w = .ok (.bool false) w := by
  rw [run_neq_struct, dice_eqi]; simp
theorem dice_guard (op : BinOp) (p q : Operand) (a c : Int) (w : World) : (eqGuard op 24 p q (.agg #[.int .i64 a]) (.agg #[.int .i64 c])).run Try.prog w = .ok () w :=
  run_eqGuard_agg w op 24 p q _ _ (by kernel_rfl)

theorem spread_tell (x many m : Int) : (spread x many m).2.length ≠ 0 → diceOk x = true ∧ 1 ≤ m ∧ m ≤ 1000000000 ∧ many = ((spread x many m).2.length : Int) ∧ (spread x many m).1 = stN x (spread x many m).2.length ∧ ∀ i z, (spread x many m).2[i]? = some z → z = stN x (i + 1) % m := by
  unfold spread
  split
  · split
    · rename_i hd h
      simp only [Bool.and_eq_true] at h
      have h1 := inB_bd h.1
      have h2 := inB_bd h.2
      intro _
      refine ⟨hd, h2.1, h2.2, by simp only [drawsL_len]; omega, by simp only [drawsL_len], fun i z hz => ?_⟩
      simp only [drawsL, List.getElem?_map] at hz
      rcases Nat.lt_or_ge i many.toNat with hi | hi
      · rw [List.getElem?_range hi] at hz
        exact (Option.some.inj hz).symm
      · rw [List.getElem?_eq_none (by simpa using hi)] at hz; cases hz
    · simp
  · simp

set_option maxHeartbeats 4000000 in
set_option maxRecDepth 100000 in
theorem diceagain_c (W : World) (args : Array Value) (hs : args.size = 1) (h : ∀ (j : Nat) t v, Try.f9.params[j]? = some t → args[j]? = some v → ArgOk Try.prog W t v) :
    Calls Try.prog 9 args W fun e W' => e = .returned (.bool true) ∧ Ext W W' := by
  match args, hs with
  | ⟨[a0]⟩, _ =>
    obtain ⟨ca, n, cc, rfl, hn1, hn2, HC⟩ := arg_code (h 0 _ a0 rfl rfl)
    clear h
    by_cases hbig : n ≤ 4096
    rotate_left
    · have hb : decide ((4096 : Int) < n) = true := by rw [decide_eq_true_iff]; omega
      have Hb := Lib.hid hb; clear hb
      go_enter Try.func9, Try.ntmps9
      go_wp2_with (go_at_call 33; refine (big_c _ _ _ _).mono ?_; rw [Hb.out]; rintro e w' ⟨rfl, rfl⟩)
      go_ret
      exact ⟨rfl, Ext.refl _⟩
    have hb : decide ((4096 : Int) < n) = false := by rw [decide_eq_false_iff_not]; omega
    have Hb := Lib.hid hb; clear hb
    have DN := Lib.hid dice_neq; have DE := Lib.hid dice_eql
    go_enter Try.func9, Try.ntmps9
    go_wp2_with fail
    refine (big_c _ _ _ _).mono ?_
    rw [Hb.out]
    rintro e w' ⟨rfl, rfl⟩
    go_wp2_with fail
    refine (drawSpread_c n cc ca _ (by omega) HC.out).mono ?_
    rintro e w1 ⟨x, many, m, rfl, X1⟩
    have z1 := X1.size
    have HX1 := Lib.hid X1; clear X1
    go_wp2_with fail
    have S1 := implSpread_c x many m
    have S2 := specSpread_c x many m
    have ht := spread_tell x many m
    have hl64 := spread_len x many m
    generalize spread x many m = p at S1 S2 ht hl64
    obtain ⟨y, l⟩ := p
    simp only at S1 S2 ht hl64
    have HT := Lib.hid ht; clear ht
    have HS1 := Lib.hid S1; have HS2 := Lib.hid S2; clear S1 S2
    refine (HS1.out _).mono ?_
    rintro e w2 ⟨v2, rfl, X2, O2⟩
    obtain ⟨la, lc, rfl, hl1, hl2, -⟩ := row_take O2
    have Bd : Bx w2 w1.heap.size [.int .i64 x] := Bx.ext (Bx.new _ _ _ _ rfl) X2
    have z2 : w1.heap.size + 1 ≤ w2.heap.size := by have := X2.size; (try simp at this); omega
    have O2' : rowC.own (w1.heap.size + 1) w2.heap.size w2 [.slice la l.length lc] l := O2.wide (by simp) (Nat.le_refl _)
    have HX2 := Lib.hid (HX1.out.trans ((Ext.alloc _ _).trans X2))
    clear X2 O2 HX1
    have c0 := Bd.cell 0 _ rfl; have n0 := Bd.lt
    go_wp2_with fail
    refine (HS1.out _).mono ?_
    rintro e w3 ⟨v3, rfl, X3, O3⟩
    obtain ⟨ma, mc, rfl, hm1, hm2, -⟩ := row_take O3
    have z3 : w2.heap.size + 1 ≤ w3.heap.size := by have := X3.size; (try simp at this); omega
    have hX3 := (Ext.alloc _ _).trans X3
    have Bd3 := Bd.ext hX3
    have Be3 : Bx w3 w2.heap.size [.int .i64 y] := Bx.ext (Bx.new _ _ _ _ rfl) X3
    have OL3 := O2'.ext hX3
    have OM3 := O3.view
    have HX3 := Lib.hid (HX2.out.trans hX3)
    clear X3 O3 O2' HX2 hX3 Bd c0 n0
    have c0 := Bd3.cell 0 _ rfl; have n0 := Bd3.lt; have c1 := Be3.cell 0 _ rfl; have n1 := Be3.lt
    go_wp2_with fail
    refine (HS2.out _).mono ?_
    rintro e w4 ⟨v4, rfl, X4, O4⟩
    obtain ⟨na, nc, rfl, hn1', hn2', -⟩ := row_take O4
    have z4 : w3.heap.size + 1 ≤ w4.heap.size := by have := X4.size; (try simp at this); omega
    have hX4 := (Ext.alloc _ _).trans X4
    have Bd4 := Bd3.ext hX4
    have Be4 := Be3.ext hX4
    have Bf4 : Bx w4 w3.heap.size [.int .i64 y] := Bx.ext (Bx.new _ _ _ _ rfl) X4
    have OL4 := OL3.ext hX4
    have OM4 := rowC.vext OM3 hX4
    have HX4 := Lib.hid (HX3.out.trans hX4)
    clear X4 O4 OL3 OM3 HX3 hX4 Bd3 Be3 c0 n0 c1 n1 HS1 HS2
    have c0 := Bd4.cell 0 _ rfl; have n0 := Bd4.lt; have c1 := Be4.cell 0 _ rfl; have n1 := Be4.lt; have c2 := Bf4.cell 0 _ rfl; have n2 := Bf4.lt
    have hdn := DN.out y
    have hdg := fun op p q => dice_guard op p q y y
    go_wp2_with fail
    refine (likeInts_c _ _ l l _ (rowC.vext OL4.view (Ext.alloc _ _)) (rowC.vext OM4 (Ext.alloc _ _))).mono ?_
    rw [decide_eq_true rfl]
    rintro e w5 ⟨rfl, X5⟩
    have hX5 := (Ext.alloc _ _).trans X5
    have Bd5 := Lib.hid (Bd4.ext hX5)
    have Be5 := Lib.hid (Be4.ext hX5)
    have OL5 := Lib.hid (OL4.ext hX5)
    have HX5 := Lib.hid (HX4.out.trans hX5)
    clear X5 OL4 OM4 HX4 hX5 Bd4 Be4 Bf4 c0 n0 c1 n1 c2 n2 hdn hdg
    go_wp2
    go_loopw [12, 13, 14] (fun v12 _ _ wr => ∃ i : Nat, i ≤ l.length ∧ v12 = .int .i64 i ∧ Hid (Bx wr w1.heap.size [.int .i64 (stN x i)]) ∧ Hid (Chg w1.heap.size (w1.heap.size + 1) w5 wr)) (fun v12 _ _ _ => l.length - (intOf v12).toNat)
    case atStart => exact ⟨0, Nat.zero_le _, rfl, Bd5.out, Lib.hid (Chg.refl _ _ _)⟩
    case round =>
      obtain ⟨i, hi, rfl, hB, hC⟩ := hrel
      by_cases hlt : i < l.length
      · obtain ⟨hd, hm1', hm2', -, -, hall⟩ := HT.out (by omega)
        obtain ⟨l9, c9, e1, _, _, hcl⟩ := row_open (OL5.out.chg hC.out (by omega)).view
        cases e1
        obtain ⟨bi, oi, z, e2, hci, hz⟩ := hcl i hlt
        cases e2
        have hze := hall i z hz
        have hz0 : 0 ≤ z := by rw [hze]; exact Int.emod_nonneg _ (by omega)
        have hz1 : z < m := by rw [hze]; exact Int.emod_lt_of_pos _ (by omega)
        have hu : under (stN x i) m = (stN x (i + 1), z) := by
          unfold under
          rw [if_pos (stN_ok hd i), if_pos (by simp [inB]; omega), hze]; rfl
        have HU := Lib.hid hu
        have hzd : decide (z < 0) = false := by rw [decide_eq_false_iff_not]; omega
        have hzm : decide (m ≤ z) = false := by rw [decide_eq_false_iff_not]; omega
        have hk1 : (0 : Int) ≤ i := by omega
        have hk2 : (i : Int) < l.length := by omega
        have Hci := Lib.hid hci
        clear hze hall hu hcl hz
        have c0 := hB.out.cell 0 _ rfl; have n0 := hB.out.lt
        go_wp2_with fail
        refine (implUnder_c (stN x i) m _).mono ?_
        rw [HU.out]
        rintro e w6 ⟨rfl, X6⟩
        have B6 := hB.out.ext X6
        have hc6 := cell_ext hci X6
        have nb6 : bi < w6.heap.size := World.block_lt_of_cell? w6 _ hc6
        have HB6 := Lib.hid B6
        have z6 := X6.size
        have HX6 := Lib.hid (hC.out.trans (X6.chg _ _))
        clear X6 c0 n0 hci Hci
        have c0 := B6.cell 0 _ rfl; have n0 := B6.lt; have f0 := B6.fr
        clear B6
        go_wp2
        go_roundw
        case rel => exact ⟨i + 1, by omega, by go_num, Lib.hid (by have B6 := HB6.out; (repeat (first | with_reducible assumption | with_reducible exact Bx.new _ _ _ _ rfl | ((with_reducible refine Bx.new _ _ _ _ ?_); simp; done) | with_reducible refine Bx.pAlloc ?_ _ | with_reducible refine Bx.pDrew ?_ | with_reducible refine Bx.pDrewN ?_ _ | with_reducible apply Bx.set10 | with_reducible apply Bx.set20 | with_reducible apply Bx.set21 | with_reducible apply Bx.set30 | with_reducible apply Bx.set31 | with_reducible apply Bx.set32 | with_reducible apply Bx.set40 | with_reducible apply Bx.set41 | with_reducible apply Bx.set42 | with_reducible apply Bx.set43 | ((with_reducible refine Bx.set_other ?_ ?_ _); rotate_left; (simp <;> omega))))), Lib.hid (HX6.out.trans ((Chg.setCell (lo := w1.heap.size) (hi := w1.heap.size + 1) w6 ⟨w1.heap.size, 0, none⟩ _ (Nat.le_refl _) (Nat.lt_succ_self _)).trans ((Ext.alloc _ _).chg _ _)))⟩
        case measure => simp [intOf]; omega
      · have he : i = l.length := by omega
        subst he
        have Be9 : Bx _ w2.heap.size [.int .i64 y] := Be5.out.chg hC.out (by omega)
        have c0 := hB.out.cell 0 _ rfl; have n0 := hB.out.lt; have c1 := Be9.cell 0 _ rfl; have n1 := Be9.lt
        have HF := Lib.hid (Chg.ext HX5.out hC.out (by omega))
        by_cases h0 : l.length = 0
        · have hq : ((l.length : Int) == 0) = true := by rw [beq_iff_eq]; omega
          go_wp2
          go_ret
          exact ⟨rfl, HF.out⟩
        · have hq : ((l.length : Int) == 0) = false := by rw [beq_eq_false_iff_ne]; omega
          obtain ⟨-, -, -, hmany, hy, -⟩ := HT.out h0
          have hqm : ((l.length : Int) == many) = true := by rw [beq_iff_eq]; exact hmany.symm
          have HY := Lib.hid hy
          clear hy hmany
          rw [HY.out] at c1
          generalize stN x l.length = yy at *
          have hde := DE.out yy
          have hdg := fun op p q => dice_guard op p q yy yy
          go_wp2
          go_ret
          exact ⟨rfl, HF.out⟩

set_option maxRecDepth 100000 in
theorem diceagain_holds : Rows.FnDiceAgainSaid :=
  OpenClaim.holds_of_wide 9 Try.f9 rfl rfl rfl rfl rfl rfl rfl ⟨rfl, rfl, rfl, rfl, rfl⟩ rfl rfl rfl rfl rfl (by kernel_rfl) Try.func9 (by kernel_rfl)
    (of_decide_eq_true (by kernel_rfl)) (by unfold Func.isWrapper; rw [if_neg (of_decide_eq_false (by kernel_rfl))]; exact ⟨rfl, rfl⟩)
    (fun os started H enc _ => law_lifted (C := Try.checked) (f := 9) (fn := Try.f9) (s := Rows.fnDiceAgainSpec) (tb := 4) Try.own started (by kernel_rfl) Try.func9 Try.laidOut (of_decide_eq_true (by kernel_rfl)) rfl Try.underlying4 rfl
      (fun ds h => by match ds, h with | [_], _ => exact ⟨rfl, rfl, rfl⟩)
      (ChangeSpec.witness6 (enc := enc) (C := Try.checked) false ⟨#[], #[.slice none 0 0], []⟩ 8 (by kernel_rfl) (by kernel_rfl) (by kernel_rfl) (by kernel_rfl))
      diceagain_c)

end Go.Proofs.Ytdkhghnhggedbaa
