/- The law FnLinks is true for every input: it returns true, and what it was given reads as before. -/
import Derived.Test.YtjjeagblgjmcpaaCod
import Derived.Test.YtjjeagblgjmcpaaRol
import Derived.Test.YtjjeagblgjmcpaaNn
import Derived.Test.YtjjeagblgjmcpaaLnk
import Derived.Test.YtjjeagblgjmcpaaNt10b
set_option linter.unusedVariables false
set_option linter.unusedSimpArgs false
namespace Go.Proofs.Ytjjeagblgjmcpaa
open Go.RowKit Go.Sl

theorem cut_told {ls : List LinkD} {M : List Bool} {a b : Nat} (h : Told ls M) (ha : a < 6) (hb : b < 6) :
    ∃ ls' is m, cutOff ([], ls) a b = (([], ls'), is) ∧ M[6 * a + b]? = some m ∧ is = (decide (a ≠ b) && !m) ∧ (is = true → Told ls' ((M.set (6 * a + b) true).set (6 * b + a) true)) ∧ (is = false → Told ls' M) := by
  have hok : netOk ([], ls) = true := netOk_iff.2 ⟨⟨by simp, by simp⟩, h.1⟩
  have hap : apart (a : Int) b = decide (a ≠ b) := by
    have e : decide ((a : Int) = b) = decide (a = b) := by rw [decide_eq_decide]; omega
    simp only [apart, nodeOk, inB, e]
    rw [decide_eq_true (by omega), decide_eq_true (by omega), decide_eq_true (by omega), decide_eq_true (by omega)]
    simp
  unfold cutOff
  rw [if_pos hok]
  by_cases hc : apart (a : Int) b = true ∧ ¬ linkOf (a : Int) b ∈ ls
  · rw [if_pos hc]
    have hn : a ≠ b := by rw [hap] at hc; simpa using hc.1
    refine ⟨_, true, false, rfl, by rw [h.2.2 a b ha hb]; simp [hc.2], by simp [hn], fun _ => ?_, fun e => by cases e⟩
    exact told_set h (linksIn_put h.1 (linkOf_ok (by omega) (by omega) (by omega)) hc.2) ha hb (by rw [decide_eq_true_iff]; exact (mem_put _).2 (.inl rfl)) (fun y hy => by rw [mem_put]; simp [hy])
  · rw [if_neg hc]
    refine ⟨_, false, _, rfl, h.2.2 a b ha hb, ?_, fun e => (by cases e), fun _ => h⟩
    rw [hap] at hc
    by_cases hn : a = b
    · simp [hn]
    · simp [hn] at hc ⊢
      exact hc
theorem heal_told {ls : List LinkD} {M : List Bool} {a b : Nat} (h : Told ls M) (ha : a < 6) (hb : b < 6) :
    ∃ ls' is m, healed ([], ls) a b = (([], ls'), is) ∧ M[6 * a + b]? = some m ∧ is = (decide (a ≠ b) && m) ∧ (is = true → Told ls' ((M.set (6 * a + b) false).set (6 * b + a) false)) ∧ (is = false → Told ls' M) := by
  have hok : netOk ([], ls) = true := netOk_iff.2 ⟨⟨by simp, by simp⟩, h.1⟩
  unfold healed
  rw [if_pos hok]
  by_cases hm : linkOf (a : Int) b ∈ ls
  · rw [if_pos hm]
    have hn : a ≠ b := fun e => by subst e; exact linkOf_self h.1 hm
    refine ⟨_, true, true, rfl, by rw [h.2.2 a b ha hb]; simp [hm], by simp [hn], fun _ => ?_, fun e => by cases e⟩
    exact told_set h (linksIn_cut h.1) ha hb (by rw [decide_eq_false_iff_not]; exact fun hx => ((mem_cut h.1 hm).1 hx).1 rfl) (fun y hy => by rw [mem_cut h.1 hm]; simp [hy])
  · rw [if_neg hm]
    exact ⟨_, false, false, rfl, by rw [h.2.2 a b ha hb]; simp [hm], by simp, fun e => (by cases e), fun _ => h⟩
theorem pass_told {ls : List LinkD} {M : List Bool} {a b : Nat} (h : Told ls M) (ha : a < 6) (hb : b < 6) : ∃ m, M[6 * a + b]? = some m ∧ passesIn ([], ls) a b = (decide (a ≠ b) && !m) := by
  have hok : netOk ([], ls) = true := netOk_iff.2 ⟨⟨by simp, by simp⟩, h.1⟩
  refine ⟨_, h.2.2 a b ha hb, ?_⟩
  have e : decide ((a : Int) = b) = decide (a = b) := by rw [decide_eq_decide]; omega
  unfold passesIn
  rw [hok]
  simp only [apart, nodeOk, inB, e]
  rw [decide_eq_true (by omega), decide_eq_true (by omega), decide_eq_true (by omega), decide_eq_true (by omega)]
  simp
theorem _root_.Go.Sl.SlAt.fr0 {w : World} {n b off cap : Nat} {xs : List Value} (h : SlAt w n (Option.some ⟨b, off, none⟩) cap xs) : ∀ j, w.frozen? ⟨b, j, none⟩ = false := fun j => by
  rcases h with ⟨h, _⟩ | ⟨b', off', C, E, e, h1, _⟩
  · cases h
  · cases e; exact unfrozen h1
theorem _root_.Go.Sl.SlAt.blk0 {w : World} {n b off cap : Nat} {xs : List Value} (h : SlAt w n (Option.some ⟨b, off, none⟩) cap xs) : b < w.heap.size := h.lt b (by simp [ablk])
theorem _root_.Go.Sl.SlAt.chgB {w w' : World} {n b off cap lo hi : Nat} {xs : List Value} (h : SlAt w n (Option.some ⟨b, off, none⟩) cap xs) (hC : Chg lo hi w w') (hd : b < lo ∨ hi ≤ b) : SlAt w' n (Option.some ⟨b, off, none⟩) cap xs :=
  h.frame (fun z hz => hC.block z (h.lt z hz) (by simp [ablk] at hz; omega))
/-- The memory of the law: its dice, the net's box, the table. -/
structure LMem (W : World) (a : Option Addr) (n cc db nb cb : Nat) (w : World) (u v : Value) (ls : List LinkD) (M : List Bool) : Prop where
  dice : RD w db a n cc
  net : Bx w nb [u, v]
  tab : SlAt w 1 (some ⟨cb, 0, none⟩) 36 (M.map Value.bool)
  own : ∃ lo hi, netC.own lo hi w [u, v] ([], ls) ∧ cb < lo
  ext : Ext W w
theorem LMem.chg {W w w' : World} {a : Option Addr} {n cc db nb cb : Nat} {u v : Value} {ls : List LinkD} {M : List Bool} (h : LMem W a n cc db nb cb w u v ls M) (hC : Chg db (db + 1) w w') (hD : RD w' db a n cc) (h1 : W.heap.size ≤ db) (h2 : db < nb) (h3 : nb < cb) : LMem W a n cc db nb cb w' u v ls M := by
  obtain ⟨lo, hi, hO, hlo⟩ := h.own
  exact ⟨hD, h.net.chg hC (by omega), h.tab.chgB hC (by omega), ⟨lo, hi, hO.chg hC (by omega), hlo⟩, Chg.ext h.ext hC h1⟩
theorem LMem.grow {W w w' : World} {a : Option Addr} {n cc db nb cb : Nat} {u v : Value} {ls : List LinkD} {M : List Bool} (h : LMem W a n cc db nb cb w u v ls M) (hE : Ext w w') : LMem W a n cc db nb cb w' u v ls M := by
  obtain ⟨lo, hi, hO, hlo⟩ := h.own
  exact ⟨RD.ext h.dice hE, h.net.ext hE, SlAt.ext h.tab hE, ⟨lo, hi, hO.ext hE, hlo⟩, h.ext.trans hE⟩
theorem LMem.put {W w : World} {a : Option Addr} {n cc db nb cb : Nat} {u v u' v' : Value} {ls ls' : List LinkD} {M : List Bool} (h : LMem W a n cc db nb cb w u v ls M) {lo hi : Nat} (hO : netC.own lo hi w [u', v'] ([], ls')) (hlo : cb < lo) (h1 : W.heap.size ≤ db) (h2 : db < nb) (h3 : nb < cb) :
    LMem W a n cc db nb cb ((w.setCell ⟨nb, 0, none⟩ u').setCell ⟨nb, 1, none⟩ v') u' v' ls' M := by
  have hC : Chg nb (nb + 1) w ((w.setCell ⟨nb, 0, none⟩ u').setCell ⟨nb, 1, none⟩ v') := (Chg.setCell w ⟨nb, 0, none⟩ u' (Nat.le_refl _) (Nat.lt_succ_self _)).trans (Chg.setCell _ ⟨nb, 1, none⟩ v' (Nat.le_refl _) (Nat.lt_succ_self _))
  exact ⟨RD.chg h.dice hC (by omega), Bx.set21 (Bx.set20 h.net u') v', h.tab.chgB hC (by omega), ⟨lo, hi, hO.chg hC (by omega), hlo⟩, Chg.ext h.ext hC (by omega)⟩
theorem LMem.mark {W w : World} {a : Option Addr} {n cc db nb cb : Nat} {u v : Value} {ls : List LinkD} {M : List Bool} (h : LMem W a n cc db nb cb w u v ls M) (i : Nat) (m : Bool) (hil : i < M.length) (h1 : W.heap.size ≤ db) (h2 : db < nb) (h3 : nb < cb) :
    LMem W a n cc db nb cb (w.setCell ⟨cb, i, none⟩ (.bool m)) u v ls (M.set i m) := by
  have hC : Chg cb (cb + 1) w (w.setCell ⟨cb, i, none⟩ (.bool m)) := Chg.setCell _ _ _ (Nat.le_refl _) (Nat.lt_succ_self _)
  obtain ⟨lo, hi, hO, hlo⟩ := h.own
  refine ⟨RD.chg h.dice hC (by omega), h.net.chg hC (by omega), ?_, ⟨lo, hi, hO.chg hC (by omega), hlo⟩, Chg.ext h.ext hC (by omega)⟩
  have h9 := (SlAt.store h.tab (j := i) (by simpa using hil) (.bool m)).2.1
  rw [List.map_set]
  simpa using h9
theorem LMem.cell {W w : World} {a : Option Addr} {n cc db nb cb : Nat} {u v : Value} {ls : List LinkD} {M : List Bool} (h : LMem W a n cc db nb cb w u v ls M) {i : Nat} {m : Bool} (hm : M[i]? = some m) : w.cell? ⟨cb, i, none⟩ = some (.bool m) := by
  have h9 := SlAt.cellIn h.tab (j := i) (u := .bool m) (by rw [List.getElem?_map, hm]; rfl)
  simpa using h9

set_option maxHeartbeats 4000000 in
set_option maxRecDepth 100000 in
theorem links_c (W : World) (args : Array Value) (hs : args.size = 1) (h : ∀ (j : Nat) t v, Try.f3.params[j]? = some t → args[j]? = some v → ArgOk Try.prog W t v) :
    Calls Try.prog 3 args W fun e W' => e = .returned (.bool true) ∧ Ext W W' := by
  match args, hs with
  | ⟨[a0]⟩, _ =>
    obtain ⟨ca, n, cc, rfl, hn1, hn2, HC⟩ := arg_codeR (h 0 _ a0 rfl rfl)
    clear h
    by_cases hbig : n ≤ 4096
    rotate_left
    · have hb : decide ((4096 : Int) < n) = true := by rw [decide_eq_true_iff]; omega
      have Hb := Lib.hid hb; clear hb
      go_enter Try.func3, Try.ntmps3
      go_wp2_with (go_at_call 5; refine (big_c _ _ _ _).mono ?_; rw [Hb.out]; rintro e w' ⟨rfl, rfl⟩)
      go_ret
      exact ⟨rfl, Ext.refl _⟩
    have hb : decide ((4096 : Int) < n) = false := by rw [decide_eq_false_iff_not]; omega
    have Hb := Lib.hid hb; clear hb
    go_enter Try.func3, Try.ntmps3
    go_wp2_with fail
    refine (big_c _ _ _ _).mono ?_
    rw [Hb.out]
    rintro e w' ⟨rfl, rfl⟩
    go_wp2_with fail
    refine (roll_c n cc ca 901 _ hbig HC.out).mono ?_
    rintro e w1 ⟨db, rfl, hdb, hD, -, X1⟩
    have z1 := X1.size
    have hdl := hD.lt
    have HD := Lib.hid hD; have HX1 := Lib.hid X1
    clear hD X1
    go_wp2_with fail
    refine (newNet_c _).mono ?_
    rintro e w2 ⟨rfl, X2⟩
    have z2 := X2.size
    have HD2 := Lib.hid (RD.ext HD.out X2); have HX2 := Lib.hid (HX1.out.trans X2)
    clear X2 HD HX1
    have Hinf : Hid ((Try.prog.info? 4).map (fun i => (i.zero, i.size, i.bytes)) = some (some (.bool false), 1, 1)) := Lib.hid (by kernel_rfl)
    go_wp2_with (at_make; refine wpList_make_sl _ rfl _ _ _ rfl 4 Try.underlying32 _ 1 1 Hinf.out 36 rfl rfl (by omega) (by omega) ?_)
    intro w3 zs hS hl hz hE hlt
    rw [toList_madeCells_one] at hz
    subst hz
    have hS' : SlAt w3 1 (some ⟨w2.heap.size + 1, 0, none⟩) 36 ((List.replicate 36 false).map Value.bool) := by
      rw [List.map_replicate]
      simpa using hS
    have B0 := Bx.ext (Bx.new w2 #[.slice none 0 0, .slice none 0 0] 30 _ rfl) hE
    have hM : LMem W ca n cc db w2.heap.size (w2.heap.size + 1) w3 (.slice none 0 0) (.slice none 0 0) [] (List.replicate 36 false) :=
      ⟨RD.ext HD2.out ((Ext.alloc _ _).trans hE), B0, hS', ⟨w2.heap.size + 2, w2.heap.size + 2, net_nil _ _ _, by omega⟩, HX2.out.trans ((Ext.alloc _ _).trans hE)⟩
    have HM := Lib.hid hM
    have hz3 : w2.heap.size + 1 < w3.heap.size := hS'.blk0
    clear hM hS' hS hl hE hlt B0 HD2 HX2
    (try simp only [World.size_alloc])
    go_wp2
    go_loopw [6, 7, 8, 9, 10] (fun v6 _ _ _ _ wr => ∃ (k : Nat) (u v : Value) (ls : List LinkD) (M : List Bool), k ≤ 14 ∧ v6 = .int .i64 k ∧ Hid (LMem W ca n cc db w2.heap.size (w2.heap.size + 1) wr u v ls M ∧ Told ls M)) (fun v6 _ _ _ _ _ => 14 - (intOf v6).toNat)
    case atStart => exact ⟨0, .slice none 0 0, .slice none 0 0, [], List.replicate 36 false, by omega, rfl, Lib.hid ⟨HM.out, told_start⟩⟩
    case round =>
      obtain ⟨k, u, v, ls, M, hk, rfl, HI⟩ := hrel
      by_cases hlt : k < 14
      · go_wp2_with fail
        refine (below_c db n cc ca 6 _ (by decide) HI.out.1.dice (CodeD.of HC.out HI.out.1.ext hdb)).mono ?_
        rintro e w3 ⟨x, hx0, hx1, rfl, hD3, hC3⟩
        obtain ⟨x, rfl⟩ := Int.eq_ofNat_of_zero_le hx0
        have HI3 := Lib.hid (HI.out.1.chg hC3 hD3 hdb (by omega) (by omega)); have HT := Lib.hid HI.out.2
        clear hC3 hD3 HI
        go_wp2_with fail
        refine (below_c db n cc ca 6 _ (by decide) HI3.out.dice (CodeD.of HC.out HI3.out.ext hdb)).mono ?_
        rintro e w4 ⟨y, hy0, hy1, rfl, hD4, hC4⟩
        obtain ⟨y, rfl⟩ := Int.eq_ofNat_of_zero_le hy0
        have HI4 := Lib.hid (HI3.out.chg hC4 hD4 hdb (by omega) (by omega))
        clear hC4 hD4 HI3
        go_wp2_with fail
        refine (below_c db n cc ca 3 _ (by decide) HI4.out.dice (CodeD.of HC.out HI4.out.ext hdb)).mono ?_
        rintro e w5 ⟨z, hz0, hz1, rfl, hD5, hC5⟩
        have HI5 := Lib.hid (HI4.out.chg hC5 hD5 hdb (by omega) (by omega))
        clear hC5 hD5 HI4
        have hzw5 : w2.heap.size + 1 < w5.heap.size := HI5.out.tab.blk0
        have hx6 : x < 6 := by omega
        have hy6 : y < 6 := by omega
        have c0 := HI5.out.net.cell 0 _ rfl; have c1 := HI5.out.net.cell 1 _ rfl
        by_cases hzp : 0 < z
        · go_wp2_with fail
          obtain ⟨lo, hi, hO, hlo⟩ := HI5.out.own
          refine (implCutOff_c _ ([], ls) x y _ hO.view).mono ?_
          obtain ⟨ls', is, m, hr, hm, his, ht1, ht2⟩ := cut_told HT.out hx6 hy6
          rw [hr]
          rintro e w6 ⟨u', v', rfl, X6, O6⟩
          obtain ⟨⟨pa, pc, rfl⟩, qa, qc, rfl⟩ := net_form O6
          (try simp only [List.length_nil] at O6 ⊢)
          have HI6 := Lib.hid (HI5.out.grow X6)
          have HO6 := Lib.hid O6
          have Hm := Lib.hid hm; have Ht1 := Lib.hid ht1; have Ht2 := Lib.hid ht2
          have zw6 := X6.size
          clear hO hr hm ht1 ht2 X6 O6 c0 c1 HI5 hlo
          have HI7 := Lib.hid (HI6.out.put (u' := .slice pa 0 pc) (v' := .slice qa ls'.length qc) HO6.out (by omega) hdb (by omega) (by omega))
          have c0 := HI6.out.net.cell 0 _ rfl; have c1 := HI6.out.net.cell 1 _ rfl; have fn := HI6.out.net.fr; have ln := HI6.out.net.lt; have lc := HI6.out.tab.blk0; have fc := HI6.out.tab.fr0
          have cm := HI6.out.cell Hm.out
          have hne : w2.heap.size + 1 ≠ w2.heap.size := by omega
          have hi0 : (0 : Int) ≤ 6 * (x : Int) + y := by omega
          have hi1 : 6 * (x : Int) + y < 36 := by omega
          have hi2 : (0 : Int) ≤ 6 * (y : Int) + x := by omega
          have hi3 : 6 * (y : Int) + x < 36 := by omega
          have hn1 : (6 * (x : Int) + y).toNat = 6 * x + y := by omega
          have hn2 : (6 * (y : Int) + x).toNat = 6 * y + x := by omega
          by_cases hxy : x = y
          · have hxd : ((x : Int) != (y : Int)) = false := by rw [bne_eq_false_iff_eq]; omega
            replace his : is = false := by rw [his]; simp [hxy]
            have His := Lib.hid his
            subst his
            clear hxy
            go_wp2
            go_roundw
            case rel => exact ⟨k + 1, .slice pa 0 pc, .slice qa ls'.length qc, ls', M, by omega, by go_num, Lib.hid ⟨HI7.out, Ht2.out rfl⟩⟩
            case measure => simp [intOf]; omega
          · cases m
            · have hxd : ((x : Int) != (y : Int)) = true := by rw [bne_iff_ne]; omega
              obtain ⟨m2, hm2⟩ : ∃ m2, M[6 * y + x]? = some m2 := ⟨_, HT.out.2.2 y x hy6 hx6⟩
              have cm2 := HI6.out.cell hm2
              clear hm2
              have hdis : 6 * x + y ≠ 6 * y + x := by omega
              replace his : is = true := by rw [his]; simp [hxy]
              subst his
              clear hxy
              go_wp2
              go_roundw
              case rel => exact ⟨k + 1, .slice pa 0 pc, .slice qa ls'.length qc, ls', (M.set (6 * x + y) true).set (6 * y + x) true, by omega, by go_num, Lib.hid ⟨(HI7.out.mark (6 * x + y) true (by rw [HT.out.2.1]; omega) hdb (by omega) (by omega)).mark (6 * y + x) true (by rw [List.length_set, HT.out.2.1]; omega) hdb (by omega) (by omega), Ht1.out rfl⟩⟩
              case measure => simp [intOf]; omega
            · have hxd : ((x : Int) != (y : Int)) = true := by rw [bne_iff_ne]; omega
              obtain ⟨m2, hm2⟩ : ∃ m2, M[6 * y + x]? = some m2 := ⟨_, HT.out.2.2 y x hy6 hx6⟩
              have cm2 := HI6.out.cell hm2
              clear hm2
              have hdis : 6 * x + y ≠ 6 * y + x := by omega
              replace his : is = false := by rw [his]; simp [hxy]
              subst his
              clear hxy
              go_wp2
              go_roundw
              case rel => exact ⟨k + 1, .slice pa 0 pc, .slice qa ls'.length qc, ls', M, by omega, by go_num, Lib.hid ⟨HI7.out, Ht2.out rfl⟩⟩
              case measure => simp [intOf]; omega
        · have hzd : decide ((0 : Int) < z) = false := by simpa using hzp
          go_wp2_with fail
          obtain ⟨lo, hi, hO, hlo⟩ := HI5.out.own
          refine (implHealed_c _ ([], ls) x y _ hO.view).mono ?_
          obtain ⟨ls', is, m, hr, hm, his, ht1, ht2⟩ := heal_told HT.out hx6 hy6
          rw [hr]
          rintro e w6 ⟨u', v', rfl, X6, O6⟩
          obtain ⟨⟨pa, pc, rfl⟩, qa, qc, rfl⟩ := net_form O6
          (try simp only [List.length_nil] at O6 ⊢)
          have HI6 := Lib.hid (HI5.out.grow X6)
          have HO6 := Lib.hid O6
          have Hm := Lib.hid hm; have Ht1 := Lib.hid ht1; have Ht2 := Lib.hid ht2
          have zw6 := X6.size
          clear hO hr hm ht1 ht2 X6 O6 c0 c1 HI5 hlo
          have HI7 := Lib.hid (HI6.out.put (u' := .slice pa 0 pc) (v' := .slice qa ls'.length qc) HO6.out (by omega) hdb (by omega) (by omega))
          have c0 := HI6.out.net.cell 0 _ rfl; have c1 := HI6.out.net.cell 1 _ rfl; have fn := HI6.out.net.fr; have ln := HI6.out.net.lt; have lc := HI6.out.tab.blk0; have fc := HI6.out.tab.fr0
          have cm := HI6.out.cell Hm.out
          have hne : w2.heap.size + 1 ≠ w2.heap.size := by omega
          have hi0 : (0 : Int) ≤ 6 * (x : Int) + y := by omega
          have hi1 : 6 * (x : Int) + y < 36 := by omega
          have hi2 : (0 : Int) ≤ 6 * (y : Int) + x := by omega
          have hi3 : 6 * (y : Int) + x < 36 := by omega
          have hn1 : (6 * (x : Int) + y).toNat = 6 * x + y := by omega
          have hn2 : (6 * (y : Int) + x).toNat = 6 * y + x := by omega
          by_cases hxy : x = y
          · have hxd : ((x : Int) != (y : Int)) = false := by rw [bne_eq_false_iff_eq]; omega
            replace his : is = false := by rw [his]; simp [hxy]
            have His := Lib.hid his
            subst his
            clear hxy
            go_wp2
            go_roundw
            case rel => exact ⟨k + 1, .slice pa 0 pc, .slice qa ls'.length qc, ls', M, by omega, by go_num, Lib.hid ⟨HI7.out, Ht2.out rfl⟩⟩
            case measure => simp [intOf]; omega
          · cases m
            · have hxd : ((x : Int) != (y : Int)) = true := by rw [bne_iff_ne]; omega
              obtain ⟨m2, hm2⟩ : ∃ m2, M[6 * y + x]? = some m2 := ⟨_, HT.out.2.2 y x hy6 hx6⟩
              have cm2 := HI6.out.cell hm2
              clear hm2
              have hdis : 6 * x + y ≠ 6 * y + x := by omega
              replace his : is = false := by rw [his]; simp [hxy]
              subst his
              clear hxy
              go_wp2
              go_roundw
              case rel => exact ⟨k + 1, .slice pa 0 pc, .slice qa ls'.length qc, ls', M, by omega, by go_num, Lib.hid ⟨HI7.out, Ht2.out rfl⟩⟩
              case measure => simp [intOf]; omega
            · have hxd : ((x : Int) != (y : Int)) = true := by rw [bne_iff_ne]; omega
              obtain ⟨m2, hm2⟩ : ∃ m2, M[6 * y + x]? = some m2 := ⟨_, HT.out.2.2 y x hy6 hx6⟩
              have cm2 := HI6.out.cell hm2
              clear hm2
              have hdis : 6 * x + y ≠ 6 * y + x := by omega
              replace his : is = true := by rw [his]; simp [hxy]
              subst his
              clear hxy
              go_wp2
              go_roundw
              case rel => exact ⟨k + 1, .slice pa 0 pc, .slice qa ls'.length qc, ls', (M.set (6 * x + y) false).set (6 * y + x) false, by omega, by go_num, Lib.hid ⟨(HI7.out.mark (6 * x + y) false (by rw [HT.out.2.1]; omega) hdb (by omega) (by omega)).mark (6 * y + x) false (by rw [List.length_set, HT.out.2.1]; omega) hdb (by omega) (by omega), Ht1.out rfl⟩⟩
              case measure => simp [intOf]; omega
      · have hkd : decide ((k : Int) < 14) = false := by rw [decide_eq_false_iff_not]; omega
        have HT := Lib.hid HI.out.2
        go_wp2
        go_loopw [11, 12] (fun v11 _ wq => ∃ i : Nat, i ≤ 6 ∧ v11 = .int .i64 i ∧ Hid (LMem W ca n cc db w2.heap.size (w2.heap.size + 1) wq u v ls M)) (fun v11 _ _ => 6 - (intOf v11).toNat)
        case atStart => exact ⟨0, by omega, rfl, Lib.hid HI.out.1⟩
        case round =>
          obtain ⟨i, hi, rfl, HJ⟩ := hrel
          by_cases hli : i < 6
          · have hid : decide ((i : Int) < 6) = true := by rw [decide_eq_true_iff]; omega
            go_wp2
            go_loopw [12] (fun v12 wz => ∃ j : Nat, j ≤ 6 ∧ v12 = .int .i64 j ∧ Hid (LMem W ca n cc db w2.heap.size (w2.heap.size + 1) wz u v ls M)) (fun v12 _ => 6 - (intOf v12).toNat)
            case atStart => exact ⟨0, by omega, rfl, Lib.hid HJ.out⟩
            case round =>
              obtain ⟨j, hj, rfl, HK⟩ := hrel
              by_cases hlj : j < 6
              · have c0 := HK.out.net.cell 0 _ rfl; have c1 := HK.out.net.cell 1 _ rfl
                go_wp2_with fail
                obtain ⟨lo, hi9, hO, hlo⟩ := HK.out.own
                refine (implPassesIn_c _ ([], ls) i j _ hO.view).mono ?_
                obtain ⟨m, hm, hp⟩ := pass_told HT.out hli hlj
                rw [hp]
                rintro e w7 ⟨rfl, X7⟩
                have HL := Lib.hid (HK.out.grow X7)
                clear hO hp X7 c0 c1 HK hlo
                have cm := HL.out.cell hm
                have hi0 : (0 : Int) ≤ 6 * (i : Int) + j := by omega
                have hi1 : 6 * (i : Int) + j < 36 := by omega
                have hn1 : (6 * (i : Int) + j).toNat = 6 * i + j := by omega
                clear hm
                by_cases hij : i = j
                · have hxd : ((i : Int) != (j : Int)) = false := by rw [bne_eq_false_iff_eq]; omega
                  have hne : (decide (i ≠ j) && !m) = false := by simp [hij]
                  rw [hne]
                  clear hne hij
                  go_wp2
                  go_roundw
                  case rel => exact ⟨j + 1, by omega, by go_num, HL⟩
                  case measure => simp [intOf]; omega
                · have hxd : ((i : Int) != (j : Int)) = true := by rw [bne_iff_ne]; omega
                  have hne : (decide (i ≠ j) && !m) = !m := by simp [hij]
                  rw [hne]
                  clear hne hij
                  cases m
                  all_goals
                    go_wp2
                    go_roundw
                    case rel => exact ⟨j + 1, by omega, by go_num, HL⟩
                    case measure => simp [intOf]; omega
              · have hjd : decide ((j : Int) < 6) = false := by rw [decide_eq_false_iff_not]; omega
                go_wp2
                go_roundw
                case rel => exact ⟨i + 1, by omega, by go_num, HK⟩
                case measure => simp [intOf]; omega
          · have hid : decide ((i : Int) < 6) = false := by rw [decide_eq_false_iff_not]; omega
            obtain ⟨lo, hi9, hO, hlo⟩ := HJ.out.own
            obtain ⟨⟨ua, uc, rfl⟩, ua2, uc2, rfl⟩ := net_form hO
            have c0 := HJ.out.net.cell 0 _ rfl; have c1 := HJ.out.net.cell 1 _ rfl
            have hok : netOk ([], ls) = true := netOk_iff.2 ⟨⟨by simp, by simp⟩, HT.out.1⟩
            have Hok := Lib.hid hok; have HO := Lib.hid hO.view
            clear hok hO
            go_wp2_with fail
            refine (implNetOk_c _ ([], ls) _ HO.out).mono ?_
            rw [Hok.out]
            rintro e w8 ⟨rfl, X8⟩
            have HL := Lib.hid (HJ.out.grow X8)
            clear X8 c0 c1
            have c0 := HL.out.net.cell 0 _ rfl; have c1 := HL.out.net.cell 1 _ rfl
            go_wp2
            go_ret
            exact ⟨rfl, HL.out.ext⟩

set_option maxRecDepth 100000 in
theorem links_holds : Rows.FnLinksSaid :=
  OpenClaim.holds_of_wide 3 Try.f3 rfl rfl rfl rfl rfl rfl rfl ⟨rfl, rfl, rfl, rfl, rfl⟩ rfl rfl rfl rfl rfl (by kernel_rfl) Try.func3 (by kernel_rfl)
    (of_decide_eq_true (by kernel_rfl)) (by unfold Func.isWrapper; rw [if_neg (of_decide_eq_false (by kernel_rfl))]; exact ⟨rfl, rfl⟩)
    (fun os started H enc _ => law_lifted (C := Try.checked) (f := 3) (fn := Try.f3) (s := Rows.fnLinksSpec) (tb := 4) Try.own started (by kernel_rfl) Try.func3 Try.laidOut (of_decide_eq_true (by kernel_rfl)) rfl Try.underlying4 rfl
      (fun ds h => by match ds, h with | [_], _ => exact ⟨rfl, rfl, rfl⟩)
      (ChangeSpec.witness6 (enc := enc) (C := Try.checked) false ⟨#[], #[.slice none 0 0], []⟩ 8 (by kernel_rfl) (by kernel_rfl) (by kernel_rfl) (by kernel_rfl))
      links_c)

end Go.Proofs.Ytjjeagblgjmcpaa
