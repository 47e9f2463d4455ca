/- The law FnFlight is true for every input: it returns true, and what it was given reads as before. -/
import Derived.Test.YtjjeagblgjmcpaaCod
import Derived.Test.YtjjeagblgjmcpaaFlt
import Derived.Test.YtjjeagblgjmcpaaNt7
import Derived.Test.YtjjeagblgjmcpaaNt7b
import Derived.Test.YtjjeagblgjmcpaaNt11b
import Derived.Deep.DeepCutAuto
set_option linter.unusedVariables false
set_option linter.unusedSimpArgs false
namespace Go.Proofs.Ytjjeagblgjmcpaa
open Go.RowKit Go.Sl

set_option maxHeartbeats 64000000 in
set_option maxRecDepth 100000 in
theorem flight_c (W : World) (args : Array Value) (hs : args.size = 1) (h : ∀ (j : Nat) t v, Try.f4.params[j]? = some t → args[j]? = some v → ArgOk Try.prog W t v) :
    Calls Try.prog 4 args W fun e W' => e = .returned (.bool true) ∧ Ext W W' := by
  match args, hs with
  | ⟨[a0]⟩, _ =>
    obtain ⟨ca, n, cc, rfl, hn1, hn2, HC⟩ := arg_codeR (h 0 _ a0 rfl rfl)
    clear h
    by_cases hbig : n ≤ 4096
    rotate_left
    · have hb : decide ((4096 : Int) < n) = true := by rw [decide_eq_true_iff]; omega
      have Hb := Lib.hid hb; clear hb
      go_enter Try.func4, Try.ntmps4
      go_wp2_with (go_at_call 5; refine (big_c _ _ _ _).mono ?_; rw [Hb.out]; rintro e w' ⟨rfl, rfl⟩)
      go_ret
      exact ⟨rfl, Ext.refl _⟩
    have hb : decide ((4096 : Int) < n) = false := by rw [decide_eq_false_iff_not]; omega
    have Hb := Lib.hid hb; clear hb
    go_enter Try.func4, Try.ntmps4
    go_wp2_with fail
    refine (big_c _ _ _ _).mono ?_
    rw [Hb.out]
    rintro e w' ⟨rfl, rfl⟩
    go_wp2_with fail
    refine (roll_c n cc ca 902 _ hbig HC.out).mono ?_
    rintro e w1 ⟨db, rfl, hdb, hD, -, X1⟩
    have HD1 : Hid (Dd W ca n cc db w1) := Lib.hid ⟨hD, X1, HC.out, hdb⟩
    have hdl := hD.lt
    clear hD X1
    go_wp2_with fail
    refine (newNet_c _).mono ?_
    rintro e w2 ⟨rfl, X2⟩
    have z2 := X2.size
    have HD2 := Lib.hid (HD1.out.grow X2)
    clear X2 HD1
    have hF : FL W ca n cc db w2.heap.size (w2.alloc (.cells #[.slice none 0 0, .slice none 0 0] 30)) (.slice none 0 0) (.slice none 0 0) ([], []) none 0 [] := ⟨HD2.out.grow (Ext.alloc _ _), Bx.new _ _ _ _ rfl, ⟨[], net_O.2 ⟨_, _, [], [], rfl, rfl, nilN_O _, nilN_O _⟩, by simp⟩, ⟨[], [], Nat.le_refl _, by omega, .inl ⟨rfl, rfl, rfl⟩, ⟨rfl, rfl⟩, by simp, by simp [ablk]⟩, by omega⟩
    have HF2 := Lib.hid hF
    clear hF HD2
    go_wp2_with fail
    refine (HF2.out.dd.below 6 (by decide)).mono ?_
    rintro e w3 ⟨a, ha0, ha1, rfl, hD3, hC3⟩
    have HF3 := Lib.hid (HF2.out.dice hC3 hD3)
    clear HF2 hD3 hC3
    have hwa : IntKind.i64.wrap (a + 1) = a + 1 := IntWalk.i64_in _ (by omega)
    go_wp2_with fail
    refine (HF3.out.dd.below 5 (by decide)).mono ?_
    rintro e w4 ⟨y, hy0, hy1, rfl, hD4, hC4⟩
    have HF4 := Lib.hid (HF3.out.dice hC4 hD4)
    clear HF3 hD4 hC4
    have hwb : IntKind.i64.wrap (a + 1 + y) = a + 1 + y := IntWalk.i64_in _ (by omega)
    have hwc : (a + 1 + y).tmod 6 = (a + 1 + y) % 6 := by rw [Int.tmod_eq_emod_of_nonneg (by omega)]
    have hap : apart a ((a + 1 + y) % 6) = true := by
      simp only [apart, nodeOk, inB, Bool.and_eq_true, Bool.not_eq_true', decide_eq_true_eq, decide_eq_false_iff_not]
      omega
    have hab : a ≠ (a + 1 + y) % 6 := by omega
    have HAP := Lib.hid (And.intro hap hab)
    clear hap hab
    have c0 := HF4.out.net.cell 0 _ rfl; have c1 := HF4.out.net.cell 1 _ rfl
    go_wp2_with fail
    clear hwa hwb hwc
    generalize hT : (a + 1 + y) % 6 = t at *
    clear hT
    have HCut := Lib.hid (fl_cut HAP.out.1)
    refine (implCutOff_c _ ([], []) a t _ HF4.out.view).mono ?_
    rw [HCut.out]
    rintro e w5 ⟨u, v, rfl, hE5, hO5⟩
    obtain ⟨⟨pa, pc, rfl⟩, qa, qc, rfl⟩ := net_form hO5
    (try simp only at hO5 ⊢)
    have hn5 : w2.heap.size < w4.heap.size := HF4.out.size
    have HF5 := Lib.hid ((HF4.out.grow hE5).put (NN.of hO5 HF4.out.mo (Nat.le_refl _) hn5))
    have HE5 := Lib.hid hE5
    have z5 := hE5.size
    have c0' := (HF4.out.net.ext hE5).cell 0 _ rfl; have c1' := (HF4.out.net.ext hE5).cell 1 _ rfl; have fn := (HF4.out.net.ext hE5).fr; have ln := (HF4.out.net.ext hE5).lt
    clear hO5 hE5 HCut c0 c1
    go_wp2
    go_loopw [7, 8] (fun v7 v8 wr => ∃ (k : Nat) (l : List MsgD) (oa : Option Addr) (oc : Nat) (u v : Value), k ≤ 18 ∧ v8 = .int .i64 k ∧ v7 = .slice oa l.length oc ∧ l.length ≤ k ∧ Hid ((∀ m ∈ l, msgOk m = true) ∧ FL W ca n cc db w2.heap.size wr u v (l, [linkOf a t]) oa oc l)) (fun _ v8 _ => 18 - (intOf v8).toNat)
    case atStart => exact ⟨0, [], _, _, _, _, by omega, rfl, rfl, by simp, Lib.hid ⟨by simp, FL.fresh HF5.out (Ext.alloc _ _) (MO.nil _ _ HF5.out.size _ _ (by simp [World.setCell])) (by simp [ablk, World.setCell])⟩⟩
    case round =>
      obtain ⟨k, l, oa, oc, u, v, hk, rfl, rfl, hl, HI⟩ := hrel
      clear HF5 HF4 HE5 z5 c0' c1' fn ln
      obtain ⟨wq, hwq⟩ : ∃ w, w = wr := ⟨_, rfl⟩
      subst hwq
      by_cases hlt : k < 18
      · have hkd : decide ((k : Int) < 18) = true := by rw [decide_eq_true_iff]; omega
        have hw1 : IntKind.i64.wrap ((k : Int) + 1) = k + 1 := IntWalk.i64_in _ (by omega)
        have hwl : IntKind.i64.wrap ((l.length : Int) + 1) = l.length + 1 := IntWalk.i64_in _ (by omega)
        have Hinf := Lib.hid Try.infoM
        go_wp2_with fail
        refine (HI.out.2.dd.below ((l.length : Int) + 1) (by omega)).mono ?_
        rintro e w6 ⟨i, hi0, hi1, rfl, hD6, hC6⟩
        have HF6 := Lib.hid (HI.out.2.dice hC6 hD6)
        have HOK := Lib.hid HI.out.1
        clear hD6 hC6 HI
        have Hok := Lib.hid (fl_ok (fl_links HAP.out.1) HOK.out (by omega))
        obtain ⟨q, rfl⟩ := Int.eq_ofNat_of_zero_le hi0
        clear hi0
        by_cases hq : q < l.length
        · have hqd : decide ((q : Int) < (l.length : Int)) = true := by rw [decide_eq_true_iff]; omega
          obtain ⟨m, hm⟩ : ∃ m, l[q]? = some m := ⟨_, List.getElem?_eq_getElem hq⟩
          have HMq := Lib.hid hm
          obtain ⟨b, off, rfl⟩ : ∃ b off, oa = some ⟨b, off, none⟩ := by
            obtain ⟨b, off, _, _, _, _, _, _, e9, -⟩ := HF6.out.mo.parts hm
            exact ⟨b, off, e9⟩
          clear hm
          go_wp2_with fail
          refine (HF6.out.dd.below 5 (by decide)).mono ?_
          rintro e w7 ⟨x, hx0, hx1, rfl, hD7, hC7⟩
          have HF := Lib.hid (HF6.out.dice hC7 hD7)
          clear HF6 hD7 hC7
          by_cases e0 : x = 0
          · as_aux_lemma =>
              have x0 : decide (x = 0) = true := by rw [decide_eq_true_iff]; exact e0
              have x0b : (x == 0) = true := by rw [beq_iff_eq]; exact e0
              clear e0
              cases hsh : shutB a t m
              · as_aux_lemma =>
                  have Hh := Lib.hid (fl_handedM HAP.out.2 Hok.out HMq.out hsh)
                  have HSH := Lib.hid hsh
                  clear hsh
                  go_upto_region 22 with fail
                  go_cut [11, 12, 13] (fun s11 s12 s13 wx => ∃ (g : Nat) (pa : Option Addr) (pn pc : Nat) (qa : Option Addr) (qn qc : Nat) (ra : Option Addr) (rc : Nat), s11 = .pointer (some ⟨g, 0, none⟩) ∧ s12 = .pointer (some ⟨g + 1, 0, none⟩) ∧ s13 = .bool true ∧ w2.heap.size < g ∧ Hid (FL W ca n cc db w2.heap.size wx u v (l, [linkOf a t]) (some ⟨b, off, none⟩) oc l ∧ Bx wx g [.slice pa pn pc, .slice qa qn qc] ∧ Bx wx (g + 1) [.int .i64 m.1, .int .i64 m.2.1, .slice ra m.2.2.length rc] ∧ msgC.V wx [.int .i64 m.1, .int .i64 m.2.1, .slice ra m.2.2.length rc] m ∧ NN wx w2.heap.size (some ⟨b, off, none⟩) (.slice pa pn pc) (.slice qa qn qc) (l.eraseIdx q, [linkOf a t])))
                  case first =>
                    have c0 := HF.out.net.cell 0 _ rfl; have c1 := HF.out.net.cell 1 _ rfl; have nbw := HF.out.size
                    go_wp2_with fail
                    refine (implHanded_c _ (l, [linkOf a t]) q _ HF.out.view).mono ?_
                    rw [Hh.out]
                    rintro e w8 ⟨u8, v8, r8, rfl, hE8, hN8⟩
                    obtain ⟨⟨pa, pc, rfl⟩, qa, qc, rfl⟩ := net_form hN8.netO
                    obtain ⟨ra, rc, rfl⟩ : ∃ a c, r8 = .slice a (m : MsgD).2.2.length c := by
                      obtain ⟨v9, e9, h9⟩ := msg_V.1 hN8.msg
                      cases e9
                      exact sl_form h9
                    have HF8 := Lib.hid (HF.out.grow hE8)
                    have HN8 := Lib.hid (NN.of hN8.netO HF.out.mo (Nat.le_refl _) nbw)
                    have HV8 := Lib.hid hN8.msg
                    have z8 := hE8.size
                    clear hE8 hN8 c0 c1
                    (try simp only [List.length_append, List.length_cons, List.length_nil, Nat.zero_add] at HN8 ⊢)
                    (try simp only [List.length_nil] at HV8)
                    go_wp2
                    go_meet
                    exact ⟨w8.heap.size, _, _, _, _, _, _, _, _, rfl, rfl, rfl, by omega, Lib.hid ⟨HF8.out.grow (by repeat (first | with_reducible exact Ext.refl _ | with_reducible assumption | with_reducible refine Ext.pAlloc ?_ _ | ((with_reducible refine Ext.pSet ?_ ?_ _); rotate_left; (simp <;> omega)) | with_reducible refine Ext.pDrew ?_ | with_reducible refine Ext.pDrewN ?_ _)), (by repeat (first | with_reducible assumption | with_reducible exact Bx.new _ _ _ _ rfl | ((with_reducible refine Bx.new _ _ _ _ ?_); simp; done) | with_reducible refine Bx.pAlloc ?_ _ | with_reducible refine Bx.pDrew ?_ | with_reducible refine Bx.pDrewN ?_ _ | with_reducible apply Bx.set10 | with_reducible apply Bx.set20 | with_reducible apply Bx.set21 | with_reducible apply Bx.set30 | with_reducible apply Bx.set31 | with_reducible apply Bx.set32 | with_reducible apply Bx.set40 | with_reducible apply Bx.set41 | with_reducible apply Bx.set42 | with_reducible apply Bx.set43 | ((with_reducible refine Bx.set_other ?_ ?_ _); rotate_left; (simp <;> omega)))), (by repeat (first | with_reducible assumption | with_reducible exact Bx.new _ _ _ _ rfl | ((with_reducible refine Bx.new _ _ _ _ ?_); simp; done) | with_reducible refine Bx.pAlloc ?_ _ | with_reducible refine Bx.pDrew ?_ | with_reducible refine Bx.pDrewN ?_ _ | with_reducible apply Bx.set10 | with_reducible apply Bx.set20 | with_reducible apply Bx.set21 | with_reducible apply Bx.set30 | with_reducible apply Bx.set31 | with_reducible apply Bx.set32 | with_reducible apply Bx.set40 | with_reducible apply Bx.set41 | with_reducible apply Bx.set42 | with_reducible apply Bx.set43 | ((with_reducible refine Bx.set_other ?_ ?_ _); rotate_left; (simp <;> omega)))), msgC.vext HV8.out (by repeat (first | with_reducible exact Ext.refl _ | with_reducible assumption | with_reducible refine Ext.pAlloc ?_ _ | ((with_reducible refine Ext.pSet ?_ ?_ _); rotate_left; (simp <;> omega)) | with_reducible refine Ext.pDrew ?_ | with_reducible refine Ext.pDrewN ?_ _)), HN8.out.ext (by repeat (first | with_reducible exact Ext.refl _ | with_reducible assumption | with_reducible refine Ext.pAlloc ?_ _ | ((with_reducible refine Ext.pSet ?_ ?_ _); rotate_left; (simp <;> omega)) | with_reducible refine Ext.pDrew ?_ | with_reducible refine Ext.pDrewN ?_ _))⟩⟩
                  case rest =>
                    obtain ⟨g, pa, pn, pc, qa, qn, qc, ra, rc, rfl, rfl, rfl, hg, HX⟩ := hcut
                    obtain ⟨wd, hwd⟩ : ∃ w, w = wc := ⟨_, rfl⟩
                    subst hwd
                    clear Hh HF
                    obtain ⟨r, d0, d1, d2, fx, hfx, -⟩ := HX.out.1.mo.cells HMq.out
                    have HVr := Lib.hid (msgC.view hfx)
                    clear hfx
                    have hi1 : (0 : Int) ≤ q := by omega
                    have hi2 : (q : Int) < l.length := by omega
                    go_upto_region 23 with fail
                    go_cut [14] (fun s14 wx => s14 = .bool false ∧ wx = wd)
                    case first =>
                      skip
                      cases A1 : decide (m.1 = a) <;> cases A2 : decide (m.2.1 = t) <;> cases B1 : decide (m.1 = t) <;> cases B2 : decide (m.2.1 = a)
                      all_goals have A1' := A1
                      all_goals have A2' := A2
                      all_goals have B1' := B1
                      all_goals have B2' := B2
                      all_goals rw [← Bool.beq_eq_decide_eq] at A1' A2' B1' B2'
                      all_goals have hS9 := HSH.out
                      all_goals rw [shutB, A1, A2, B1, B2] at hS9
                      all_goals first
                        | exact absurd hS9 (by decide)
                        | (clear hS9; go_wp2_with fail; go_meet; exact ⟨rfl, rfl⟩)
                    case rest =>
                      obtain ⟨rfl, hwx⟩ := hcut
                      subst hwx
                      obtain ⟨wd, hwd⟩ : ∃ w, w = wc := ⟨_, rfl⟩
                      subst hwd
                      have e0 := HX.out.2.2.1.cell 0 _ rfl; have e1 := HX.out.2.2.1.cell 1 _ rfl; have e2 := HX.out.2.2.1.cell 2 _ rfl
                      go_wp2
                      refine wp_region_held_drew (S := fun ω => ω.cell? ⟨g + 1, 0, none⟩ = some (.int .i64 m.1) ∧ ω.cell? ⟨g + 1, 1, none⟩ = some (.int .i64 m.2.1) ∧ ω.cell? ⟨g + 1, 2, none⟩ = some (.slice ra m.2.2.length rc) ∧ ω.cell? ⟨b, off + q * 3, none⟩ = some (.int .i64 m.1) ∧ ω.cell? ⟨b, off + q * 3 + 1, none⟩ = some (.int .i64 m.2.1) ∧ ω.cell? ⟨b, off + q * 3 + 2, none⟩ = some (r) ∧ Ext wd ω) (by kernel_rfl) ?_ (fun hHeld => ?_)
                      · (try dsimp only); exact ⟨e0, e1, e2, d0, d1, d2, Ext.drew _⟩
                      refine wpAnyH_take (i := 0) (v := ?_) rfl (by kernel_rfl) (by kernel_rfl) (by kernel_rfl) (fun _ _ _ h => h) (Or.inl ⟨by rfl, ?_⟩) (by assumption) ?_
                      rotate_left
                      · intro w9 hSw; (try dsimp only at hSw); go_simp; (first | done | with_reducible rfl)
                      (try simp only [List.getElem_toArray, List.getElem_cons_succ, List.getElem_cons_zero, Act.put, List.setIfInBounds_toArray, List.set_cons_zero, List.set_cons_succ])
                      refine wpAnyH_take (i := 1) (v := ?_) rfl (by kernel_rfl) (by kernel_rfl) (by kernel_rfl) (fun _ _ _ h => h) (Or.inl ⟨by rfl, ?_⟩) (by assumption) ?_
                      rotate_left
                      · intro w9 hSw; (try dsimp only at hSw); go_simp; (first | done | with_reducible rfl)
                      (try simp only [List.getElem_toArray, List.getElem_cons_succ, List.getElem_cons_zero, Act.put, List.setIfInBounds_toArray, List.set_cons_zero, List.set_cons_succ])
                      refine wpAnyH_take (i := 2) (v := ?_) rfl (by kernel_rfl) (by kernel_rfl) (by kernel_rfl) (fun _ _ _ h => h) (Or.inl ⟨by rfl, ?_⟩) (by assumption) ?_
                      rotate_left
                      · intro w9 hSw; (try dsimp only at hSw); go_simp; (first | done | with_reducible rfl)
                      (try simp only [List.getElem_toArray, List.getElem_cons_succ, List.getElem_cons_zero, Act.put, List.setIfInBounds_toArray, List.set_cons_zero, List.set_cons_succ])
                      refine wpAnyH_take (i := 3) (v := ?_) rfl (by kernel_rfl) (by kernel_rfl) (by kernel_rfl) (fun _ _ _ h => h) (Or.inl ⟨by rfl, ?_⟩) (by assumption) ?_
                      rotate_left
                      · intro w9 hSw; (try dsimp only at hSw); go_simp; (first | done | with_reducible rfl)
                      (try simp only [List.getElem_toArray, List.getElem_cons_succ, List.getElem_cons_zero, Act.put, List.setIfInBounds_toArray, List.set_cons_zero, List.set_cons_succ])
                      refine wpAnyH_take (i := 4) (v := ?_) rfl (by kernel_rfl) (by kernel_rfl) (by kernel_rfl) (fun _ _ _ h => h) (Or.inl ⟨by rfl, ?_⟩) (by assumption) ?_
                      rotate_left
                      · intro w9 hSw; (try dsimp only at hSw); go_simp; (first | done | with_reducible rfl)
                      (try simp only [List.getElem_toArray, List.getElem_cons_succ, List.getElem_cons_zero, Act.put, List.setIfInBounds_toArray, List.set_cons_zero, List.set_cons_succ])
                      refine wpAnyH_take (i := 5) (v := ?_) rfl (by kernel_rfl) (by kernel_rfl) (by kernel_rfl) (fun _ _ _ h => h) (Or.inl ⟨by rfl, ?_⟩) (by assumption) ?_
                      rotate_left
                      · intro w9 hSw; (try dsimp only at hSw); go_simp; (first | done | with_reducible rfl)
                      (try simp only [List.getElem_toArray, List.getElem_cons_succ, List.getElem_cons_zero, Act.put, List.setIfInBounds_toArray, List.set_cons_zero, List.set_cons_succ])
                      refine wpAnyH_take (i := 6) (v := ?_) rfl (by kernel_rfl) (by kernel_rfl) (by kernel_rfl) (fun _ _ _ h => h) (Or.inl ⟨by rfl, ?_⟩) (by assumption) ?_
                      rotate_left
                      · intro w9 hSw; (try dsimp only at hSw); go_simp; (first | done | with_reducible rfl)
                      (try simp only [List.getElem_toArray, List.getElem_cons_succ, List.getElem_cons_zero, Act.put, List.setIfInBounds_toArray, List.set_cons_zero, List.set_cons_succ])
                      refine wpAnyH_take (i := 7) (v := ?_) rfl (by kernel_rfl) (by kernel_rfl) (by kernel_rfl) (fun _ _ _ h => h) (Or.inl ⟨by rfl, ?_⟩) (by assumption) ?_
                      rotate_left
                      · intro w9 hSw; (try dsimp only at hSw); go_simp; (first | done | with_reducible rfl)
                      (try simp only [List.getElem_toArray, List.getElem_cons_succ, List.getElem_cons_zero, Act.put, List.setIfInBounds_toArray, List.set_cons_zero, List.set_cons_succ])
                      refine wpAnyH_take (i := 8) (v := ?_) rfl (by kernel_rfl) (by kernel_rfl) (by kernel_rfl) (fun _ _ _ h => h) (Or.inl ⟨by rfl, ?_⟩) (by assumption) ?_
                      rotate_left
                      · intro w9 hSw; (try dsimp only at hSw); go_simp; (first | done | with_reducible rfl)
                      (try simp only [List.getElem_toArray, List.getElem_cons_succ, List.getElem_cons_zero, Act.put, List.setIfInBounds_toArray, List.set_cons_zero, List.set_cons_succ])
                      refine wpAnyH_take (i := 9) (v := ?_) rfl (by kernel_rfl) (by kernel_rfl) (by kernel_rfl) (fun _ _ _ h => h) (Or.inl ⟨by rfl, ?_⟩) (by assumption) ?_
                      rotate_left
                      · intro w9 hSw; (try dsimp only at hSw); go_simp; (first | done | with_reducible rfl)
                      (try simp only [List.getElem_toArray, List.getElem_cons_succ, List.getElem_cons_zero, Act.put, List.setIfInBounds_toArray, List.set_cons_zero, List.set_cons_succ])
                      refine wpAnyH_take (i := 10) (v := ?_) rfl (by kernel_rfl) (by kernel_rfl) (by kernel_rfl) (fun _ _ _ h => h) (Or.inl ⟨by rfl, ?_⟩) (by assumption) ?_
                      rotate_left
                      · intro w9 hSw; (try dsimp only at hSw); go_simp; (first | done | with_reducible rfl)
                      (try simp only [List.getElem_toArray, List.getElem_cons_succ, List.getElem_cons_zero, Act.put, List.setIfInBounds_toArray, List.set_cons_zero, List.set_cons_succ])
                      refine wpAnyH_take (i := 11) (v := ?_) rfl (by kernel_rfl) (by kernel_rfl) (by kernel_rfl) (fun _ _ _ h => h) (Or.inl ⟨by rfl, ?_⟩) (by assumption) ?_
                      rotate_left
                      · intro w9 hSw; (try dsimp only at hSw); go_simp; (first | done | with_reducible rfl)
                      (try simp only [List.getElem_toArray, List.getElem_cons_succ, List.getElem_cons_zero, Act.put, List.setIfInBounds_toArray, List.set_cons_zero, List.set_cons_succ])
                      refine wpAnyH_take (i := 12) (v := ?_) rfl (by kernel_rfl) (by kernel_rfl) (by kernel_rfl) (fun _ _ _ h => h) (Or.inl ⟨by rfl, ?_⟩) (by assumption) ?_
                      rotate_left
                      · intro w9 hSw; (try dsimp only at hSw); go_simp; (first | done | with_reducible rfl)
                      (try simp only [List.getElem_toArray, List.getElem_cons_succ, List.getElem_cons_zero, Act.put, List.setIfInBounds_toArray, List.set_cons_zero, List.set_cons_succ])
                      refine wpAnyH_take (i := 13) (v := ?_) rfl (by kernel_rfl) (by kernel_rfl) (by kernel_rfl) (fun _ _ _ h => h) (Or.inl ⟨by rfl, ?_⟩) (by assumption) ?_
                      rotate_left
                      · intro w9 hSw; (try dsimp only at hSw); go_simp; (first | done | with_reducible rfl)
                      (try simp only [List.getElem_toArray, List.getElem_cons_succ, List.getElem_cons_zero, Act.put, List.setIfInBounds_toArray, List.set_cons_zero, List.set_cons_succ])
                      refine wpAnyH_take (i := 14) (v := ?_) rfl (by kernel_rfl) (by kernel_rfl) (by kernel_rfl) (fun _ _ _ h => h) (Or.inl ⟨by rfl, ?_⟩) (by assumption) ?_
                      rotate_left
                      · intro w9 hSw; (try dsimp only at hSw); go_simp; (first | done | with_reducible rfl)
                      (try simp only [List.getElem_toArray, List.getElem_cons_succ, List.getElem_cons_zero, Act.put, List.setIfInBounds_toArray, List.set_cons_zero, List.set_cons_succ])
                      refine wpAnyH_ready (rs := [15]) (by kernel_rfl) (by simp) ?_
                      refine AllReadyH.cons rfl (fun K hK => ?_) AllReadyH.nil
                      go_simp
                      refine (w9SameLetter_c _ _ m m _ (msgC.vext HX.out.2.2.2.1 (Ext.drew _)) (msgC.vext HVr.out (Ext.drew _))).mono ?_
                      rw [decide_eq_true rfl]
                      rintro e w9 ⟨rfl, hE9⟩
                      (try go_wp2_with fail)
                      refine hK.out _ _ ?_ (fun hHeld2 => ?_)
                      · (try dsimp only); (obtain ⟨s0, s1, s2, s3, s4, s5, s6⟩ := hHeld; exact ⟨cell_ext s0 hE9, cell_ext s1 hE9, cell_ext s2 hE9, cell_ext s3 hE9, cell_ext s4 hE9, cell_ext s5 hE9, s6.trans hE9⟩)
                      clear hK K hHeld
                      rename _ => hHeld
                      (try simp only [List.getElem_toArray, List.getElem_cons_succ, List.getElem_cons_zero, Act.put, List.setIfInBounds_toArray, List.set_cons_zero, List.set_cons_succ])
                      refine wpAnyH_take (i := 16) (v := ?_) rfl (by kernel_rfl) (by kernel_rfl) (by kernel_rfl) (fun _ _ _ h => h) (Or.inl ⟨by rfl, ?_⟩) (by assumption) ?_
                      rotate_left
                      · intro w9 hSw; (try dsimp only at hSw); go_simp; (first | done | with_reducible rfl)
                      (try simp only [List.getElem_toArray, List.getElem_cons_succ, List.getElem_cons_zero, Act.put, List.setIfInBounds_toArray, List.set_cons_zero, List.set_cons_succ])
                      refine wpAnyH_take (i := 17) (v := ?_) rfl (by kernel_rfl) (by kernel_rfl) (by kernel_rfl) (fun _ _ _ h => h) (Or.inl ⟨by rfl, ?_⟩) (by assumption) ?_
                      rotate_left
                      · intro w9 hSw; (try dsimp only at hSw); go_simp; (first | done | with_reducible rfl)
                      (try simp only [List.getElem_toArray, List.getElem_cons_succ, List.getElem_cons_zero, Act.put, List.setIfInBounds_toArray, List.set_cons_zero, List.set_cons_succ])
                      refine wpAnyH_take (i := 18) (v := ?_) rfl (by kernel_rfl) (by kernel_rfl) (by kernel_rfl) (fun _ _ _ h => h) (Or.inl ⟨by rfl, ?_⟩) (by assumption) ?_
                      rotate_left
                      · intro w9 hSw; (try dsimp only at hSw); go_simp; (first | done | with_reducible rfl)
                      (try simp only [List.getElem_toArray, List.getElem_cons_succ, List.getElem_cons_zero, Act.put, List.setIfInBounds_toArray, List.set_cons_zero, List.set_cons_succ])
                      refine wpAnyH_take (i := 19) (v := ?_) rfl (by kernel_rfl) (by kernel_rfl) (by kernel_rfl) (fun _ _ _ h => h) (Or.inl ⟨by rfl, ?_⟩) (by assumption) ?_
                      rotate_left
                      · intro w9 hSw; (try dsimp only at hSw); go_simp; (first | done | with_reducible rfl)
                      (try simp only [List.getElem_toArray, List.getElem_cons_succ, List.getElem_cons_zero, Act.put, List.setIfInBounds_toArray, List.set_cons_zero, List.set_cons_succ])
                      refine wpAnyH_take (i := 20) (v := ?_) rfl (by kernel_rfl) (by kernel_rfl) (by kernel_rfl) (fun _ _ _ h => h) (Or.inl ⟨by rfl, ?_⟩) (by assumption) ?_
                      rotate_left
                      · intro w9 hSw; (try dsimp only at hSw); go_simp; (first | done | with_reducible rfl)
                      (try simp only [List.getElem_toArray, List.getElem_cons_succ, List.getElem_cons_zero, Act.put, List.setIfInBounds_toArray, List.set_cons_zero, List.set_cons_succ])
                      refine wpAnyH_take (i := 21) (v := ?_) rfl (by kernel_rfl) (by kernel_rfl) (by kernel_rfl) (fun _ _ _ h => h) (Or.inl ⟨by rfl, ?_⟩) (by assumption) ?_
                      rotate_left
                      · intro w9 hSw; (try dsimp only at hSw); go_simp; (first | done | with_reducible rfl)
                      (try simp only [List.getElem_toArray, List.getElem_cons_succ, List.getElem_cons_zero, Act.put, List.setIfInBounds_toArray, List.set_cons_zero, List.set_cons_succ])
                      refine wpAnyH_take (i := 22) (v := ?_) rfl (by kernel_rfl) (by kernel_rfl) (by kernel_rfl) (fun _ _ _ h => h) (Or.inl ⟨by rfl, ?_⟩) (by assumption) ?_
                      rotate_left
                      · intro w9 hSw; (try dsimp only at hSw); go_simp; (first | done | with_reducible rfl)
                      (try simp only [List.getElem_toArray, List.getElem_cons_succ, List.getElem_cons_zero, Act.put, List.setIfInBounds_toArray, List.set_cons_zero, List.set_cons_succ])
                      refine wpAnyH_take (i := 23) (v := undef) rfl (by kernel_rfl) (by kernel_rfl) (by kernel_rfl) (fun _ _ _ h => h) (Or.inr ⟨by rfl, rfl⟩) (by assumption) ?_
                      (try simp only [List.getElem_toArray, List.getElem_cons_succ, List.getElem_cons_zero, Act.put, List.setIfInBounds_toArray, List.set_cons_zero, List.set_cons_succ])
                      refine wpAnyH_take (i := 24) (v := undef) rfl (by kernel_rfl) (by kernel_rfl) (by kernel_rfl) (fun _ _ _ h => h) (Or.inr ⟨by rfl, rfl⟩) (by assumption) ?_
                      (try simp only [List.getElem_toArray, List.getElem_cons_succ, List.getElem_cons_zero, Act.put, List.setIfInBounds_toArray, List.set_cons_zero, List.set_cons_succ])
                      refine wpAnyH_take (i := 25) (v := undef) rfl (by kernel_rfl) (by kernel_rfl) (by kernel_rfl) (fun _ _ _ h => h) (Or.inr ⟨by rfl, rfl⟩) (by assumption) ?_
                      (try simp only [List.getElem_toArray, List.getElem_cons_succ, List.getElem_cons_zero, Act.put, List.setIfInBounds_toArray, List.set_cons_zero, List.set_cons_succ])
                      refine wpAnyH_take (i := 26) (v := undef) rfl (by kernel_rfl) (by kernel_rfl) (by kernel_rfl) (fun _ _ _ h => h) (Or.inr ⟨by rfl, rfl⟩) (by assumption) ?_
                      (try simp only [List.getElem_toArray, List.getElem_cons_succ, List.getElem_cons_zero, Act.put, List.setIfInBounds_toArray, List.set_cons_zero, List.set_cons_succ])
                      refine wpAnyH_take (i := 27) (v := ?_) rfl (by kernel_rfl) (by kernel_rfl) (by kernel_rfl) (fun _ _ _ h => h) (Or.inl ⟨by rfl, ?_⟩) (by assumption) ?_
                      rotate_left
                      · intro w9 hSw; (try dsimp only at hSw); go_simp; (first | done | with_reducible rfl)
                      (try simp only [List.getElem_toArray, List.getElem_cons_succ, List.getElem_cons_zero, Act.put, List.setIfInBounds_toArray, List.set_cons_zero, List.set_cons_succ])
                      refine wpAnyH_take (i := 28) (v := ?_) rfl (by kernel_rfl) (by kernel_rfl) (by kernel_rfl) (fun _ _ _ h => h) (Or.inl ⟨by rfl, ?_⟩) (by assumption) ?_
                      rotate_left
                      · intro w9 hSw; (try dsimp only at hSw); go_simp; (first | done | with_reducible rfl)
                      (try simp only [List.getElem_toArray, List.getElem_cons_succ, List.getElem_cons_zero, Act.put, List.setIfInBounds_toArray, List.set_cons_zero, List.set_cons_succ])
                      refine wpAnyH_done (by kernel_rfl) ?_ _
                      have HF9 := Lib.hid (HX.out.1.grow ((Ext.drew _).trans hE9))
                      have HB9 := Lib.hid (HX.out.2.1.ext ((Ext.drew _).trans hE9))
                      have HN9 := Lib.hid (HX.out.2.2.2.2.ext ((Ext.drew _).trans hE9))
                      clear hHeld e0 e1 e2 HX d0 d1 d2 HVr hi1 hi2 hE9
                      have g0 := HB9.out.cell 0 _ rfl; have g1 := HB9.out.cell 1 _ rfl; have fn := HF9.out.net.fr; have ln := HF9.out.net.lt; have c0 := HF9.out.net.cell 0 _ rfl; have c1 := HF9.out.net.cell 1 _ rfl
                      have HF := Lib.hid (HF9.out.put HN9.out)
                      go_upto_region 28 with fail
                      clear HF9 HN9 HB9 g0 g1 fn ln c0 c1
                      generalize ((World.setCell w9 ⟨w2.heap.size, 0, none⟩ (.slice pa pn pc)).setCell ⟨w2.heap.size, 1, none⟩ (.slice qa qn qc)) = wf at *
                      obtain ⟨b', off', x1, r, x2, f1, fx, f2, eA, hS, he1, hc, he2, hx1, hx2, hfs, hbn⟩ := HF.out.mo.parts HMq.out
                      cases eA
                      have HP : Hid (CellsAt wf (some ⟨b, off, none⟩) x1) := Lib.hid hS.cells.pre
                      have HSF : Hid (CellsAt wf (if oc = q + 1 then some ⟨b, off, none⟩ else some ⟨b, off + (q + 1) * 3, none⟩) x2) := by
                        split
                        · have h9 : x2 = [] := List.eq_nil_of_length_eq_zero (by have h9 : l.length ≤ oc := (by obtain ⟨_, _, h9, _⟩ := HF.out.mo; exact h9); rw [hx2]; omega)
                          subst h9
                          exact fun j u hj => by simp at hj
                        have hcl := hS.cells
                        rw [← List.append_assoc] at hcl
                        exact hcl.suf (k := (q + 1) * 3) (by rw [List.length_append, hx1]; show q * 3 + 3 = _; omega)
                      have hfl : ∀ z ∈ f1 ++ f2, w2.heap.size < z ∧ z < wf.heap.size := fun z hz => by
                        rcases List.mem_append.1 hz with h9 | h9
                        · exact ⟨(hfs z (.inl h9)).1, elemsO_lt msgC he1 z h9⟩
                        · exact ⟨(hfs z (.inr (.inr h9))).1, elemsO_lt msgC he2 z h9⟩
                      have hlc : l.length ≤ oc := by obtain ⟨_, _, h9, _⟩ := HF.out.mo; exact h9
                      have hcm : oc ≤ 9223372036854775807 := by obtain ⟨_, _, _, h9, _⟩ := HF.out.mo; exact h9
                      have HX := Lib.hid (And.intro hx1 hx2)
                      have HE := Lib.hid (And.intro he1 he2)
                      have HFL := Lib.hid hfl
                      have nbw : w2.heap.size < wf.heap.size := HF.out.size
                      clear hS he1 hc he2 hx1 hx2 hfs hfl
                      have hk0 : decide ((q : Int) < 0) = false := by simp
                      have hi1 : (0 : Int) ≤ q := by omega
                      have hi2 : (q : Int) ≤ oc := by omega
                      have hi3 : (q : Int) + 1 ≤ l.length := by omega
                      have hi4 : (q : Int) ≤ l.length := by omega
                      have hi5 : (l.length : Int) ≤ oc := by omega
                      have hi6 : (0 : Int) ≤ (q : Int) + 1 := by omega
                      have hwq1 : IntKind.i64.wrap ((q : Int) + 1) = q + 1 := IntWalk.i64_in _ (by omega)
                      go_wp2
                      refine wp_region_T (S := fun ω => Ext wf ω) 10 (by kernel_rfl) ?_ (fun hHeld => ?_) (by decide)
                      · (try dsimp only); exact Ext.drew _
                      refine wpT_take (i := 1) (v := ?_) rfl (by kernel_rfl) (by decide) (by kernel_rfl) (by kernel_rfl) (by kernel_rfl) (fun _ _ _ h => h) (Or.inl ⟨by rfl, ?_⟩) (by assumption) ?_
                      rotate_left
                      · intro w9 hSw; (try dsimp only at hSw); go_simp; (first | done | with_reducible rfl)
                      (try simp only [List.getElem_toArray, List.getElem_cons_succ, List.getElem_cons_zero, Act.put, List.setIfInBounds_toArray, List.set_cons_zero, List.set_cons_succ])
                      refine wpT_take (i := 2) (v := ?_) rfl (by kernel_rfl) (by decide) (by kernel_rfl) (by kernel_rfl) (by kernel_rfl) (fun _ _ _ h => h) (Or.inl ⟨by rfl, ?_⟩) (by assumption) ?_
                      rotate_left
                      · intro w9 hSw; (try dsimp only at hSw); go_simp; (first | done | with_reducible rfl)
                      (try simp only [List.getElem_toArray, List.getElem_cons_succ, List.getElem_cons_zero, Act.put, List.setIfInBounds_toArray, List.set_cons_zero, List.set_cons_succ])
                      refine wpT_take (i := 3) (v := ?_) rfl (by kernel_rfl) (by decide) (by kernel_rfl) (by kernel_rfl) (by kernel_rfl) (fun _ _ _ h => h) (Or.inl ⟨by rfl, ?_⟩) (by assumption) ?_
                      rotate_left
                      · intro w9 hSw; (try dsimp only at hSw); go_simp; (first | done | with_reducible rfl)
                      (try simp only [List.getElem_toArray, List.getElem_cons_succ, List.getElem_cons_zero, Act.put, List.setIfInBounds_toArray, List.set_cons_zero, List.set_cons_succ])
                      refine wpT_take (i := 5) (v := ?_) rfl (by kernel_rfl) (by decide) (by kernel_rfl) (by kernel_rfl) (by kernel_rfl) (fun _ _ _ h => h) (Or.inl ⟨by rfl, ?_⟩) (by assumption) ?_
                      rotate_left
                      · intro w9 hSw; (try dsimp only at hSw); go_simp; (first | done | with_reducible rfl)
                      (try simp only [List.getElem_toArray, List.getElem_cons_succ, List.getElem_cons_zero, Act.put, List.setIfInBounds_toArray, List.set_cons_zero, List.set_cons_succ])
                      refine wpT_take (i := 6) (v := ?_) rfl (by kernel_rfl) (by decide) (by kernel_rfl) (by kernel_rfl) (by kernel_rfl) (fun _ _ _ h => h) (Or.inl ⟨by rfl, ?_⟩) (by assumption) ?_
                      rotate_left
                      · intro w9 hSw; (try dsimp only at hSw); go_simp; (first | done | with_reducible rfl)
                      (try simp only [List.getElem_toArray, List.getElem_cons_succ, List.getElem_cons_zero, Act.put, List.setIfInBounds_toArray, List.set_cons_zero, List.set_cons_succ])
                      refine wpT_take (i := 7) (v := ?_) rfl (by kernel_rfl) (by decide) (by kernel_rfl) (by kernel_rfl) (by kernel_rfl) (fun _ _ _ h => h) (Or.inl ⟨by rfl, ?_⟩) (by assumption) ?_
                      rotate_left
                      · intro w9 hSw; (try dsimp only at hSw); go_simp; (first | done | with_reducible rfl)
                      (try simp only [List.getElem_toArray, List.getElem_cons_succ, List.getElem_cons_zero, Act.put, List.setIfInBounds_toArray, List.set_cons_zero, List.set_cons_succ])
                      obtain ⟨v8, hv8⟩ : ∃ v, v = Value.slice (if oc = q + 1 then some ⟨b, off, none⟩ else some ⟨b, off + (q + 1) * 3, none⟩) (l.length - (q + 1)) (oc - (q + 1)) := ⟨_, rfl⟩
                      have HV8 := Lib.hid hv8
                      clear hv8
                      refine wpT_take (i := 8) (v := v8) rfl (by kernel_rfl) (by decide) (by kernel_rfl) (by kernel_rfl) (by kernel_rfl) (fun _ _ _ h => h) (Or.inl ⟨by rfl, ?_⟩) (by assumption) ?_
                      · intro w9 hSw; (try dsimp only at hSw); rw [HV8.out]; go_simp; (first | done | with_reducible rfl | rfl)
                      (try simp only [List.getElem_toArray, List.getElem_cons_succ, List.getElem_cons_zero, Act.put, List.setIfInBounds_toArray, List.set_cons_zero, List.set_cons_succ])
                      refine wpT_step (i := 0) (by kernel_rfl) (by decide) rfl (fun K hK => ?_)
                      go_simp
                      refine hK.out _ _ ?_ (fun hHeld2 => ?_)
                      · (try dsimp only); exact hHeld.trans (Ext.alloc _ _)
                      clear hK K hHeld
                      rename _ => hHeld
                      (try simp only [List.getElem_toArray, List.getElem_cons_succ, List.getElem_cons_zero, Act.put, List.setIfInBounds_toArray, List.set_cons_zero, List.set_cons_succ])
                      refine wpT_step (i := 4) (by kernel_rfl) (by decide) rfl (fun K hK => ?_)
                      rw [if_pos (by rfl)]
                      refine opwp_append_sl _ _ _ (by rfl) 40 _ 3 40 Try.underlying27 Hinf.out (by rfl) _ 0 0 [] (by rfl) rfl (SlAt.litAt _ _ _ _ (by simp)) (Nat.le_refl _) (by omega) _ q _ x1 (by rfl) HX.out.1 (HP.out.ext hHeld) (elemsO_one HE.out.1) (by omega) ?_
                      intro a4 c4 w16 hs4 hle4 hm4 hA4
                      (try simp only [Nat.zero_add, List.nil_append] at hs4 hle4)
                      (try simp only [Nat.zero_add])
                      have hC4 := hA4.chg (lo := wf.heap.size) (hi := wf.heap.size + 1) (by simp [ablk])
                      have hat4 : ∀ b ∈ ablk a4, wf.heap.size ≤ b := fun b hb => by rcases hA4.mem hb with h9 | ⟨h9, _⟩ <;> (try simp [ablk] at h9) <;> omega
                      have zz4 : wf.heap.size + 1 ≤ w16.heap.size := by have := hC4.size; (try simp at this); omega
                      refine hK.out _ _ ?_ (fun hHeld2 => ?_)
                      · (try dsimp only); exact Chg.ext hHeld hC4 (by omega)
                      clear hK K hHeld
                      rename _ => hHeld
                      (try simp only [List.getElem_toArray, List.getElem_cons_succ, List.getElem_cons_zero, Act.put, List.setIfInBounds_toArray, List.set_cons_zero, List.set_cons_succ])
                      refine wpT_step (i := 9) (by kernel_rfl) (by decide) rfl (fun K hK => ?_)
                      rw [if_pos (by rfl)]
                      refine opwp_append_sl _ _ _ (by rfl) 40 _ 3 40 Try.underlying27 Hinf.out (by rfl) _ q c4 x1 (by rfl) HX.out.1 hs4 hle4 hm4 _ (l.length - (q + 1)) _ x2 (by exact HV8.out) HX.out.2 (HSF.out.ext hHeld) (elemsO_one HE.out.2) (by omega) ?_
                      intro a5 c5 w17 hs5 hle5 hm5 hA5
                      have hln : (l.eraseIdx q).length = l.length - 1 := List.length_eraseIdx_of_lt hq
                      have hlq : q + (l.length - (q + 1)) = (l.eraseIdx q).length := by omega
                      rw [hlq] at hle5
                      rw [hlq]
                      have hC5 : Chg wf.heap.size w17.heap.size w16 w17 := (hA5.chg (lo := wf.heap.size) (hi := w16.heap.size) (fun b hb => ⟨hat4 b hb, hs4.lt b hb⟩)).wide (Nat.le_refl _) hA5.size
                      have hat5 : ∀ b ∈ ablk a5, wf.heap.size ≤ b := fun b hb => by rcases hA5.mem hb with h9 | ⟨h9, _⟩; exact hat4 b h9; omega
                      have hEr := List.eraseIdx_eq_take_drop_succ l q
                      have hCC : Chg wf.heap.size w17.heap.size wf w17 := ((((Ext.alloc _ _).trans (Ext.drew _)).chg wf.heap.size w17.heap.size).trans (hC4.wide (Nat.le_refl _) (by have := hA5.size; omega))).trans hC5
                      have hXX : Ext wf w17 := Chg.ext (Ext.refl _) hCC (Nat.le_refl _)
                      have hMM : MO w17 w2.heap.size a5 c5 (l.eraseIdx q) := by
                        refine MO.of_app (n := (l.eraseIdx q).length) (f := f1 ++ f2) hs5 (by rw [hEr]; exact elemsO_join HE.out.1 HE.out.2) (fun b hb => hXX.block b (HFL.out b hb).2) rfl hle5 hm5 (fun b hb => ⟨(HFL.out b hb).1, fun h9 => by have := hat5 b h9; have := (HFL.out b hb).2; omega⟩) (fun b hb => by have := hat5 b hb; omega)
                      have HF9 := Lib.hid (HF.out.fresh hXX hMM hat5)
                      have HLQ := Lib.hid hln
                      clear hs5 hs4 hA5 hA4 hat4 hat5 hlq hEr hln hCC hXX hMM hC4
                      refine hK.out _ _ ?_ (fun hHeld2 => ?_)
                      · (try dsimp only); exact Chg.ext hHeld hC5 (by omega)
                      clear hK K hHeld
                      rename _ => hHeld
                      (try simp only [List.getElem_toArray, List.getElem_cons_succ, List.getElem_cons_zero, Act.put, List.setIfInBounds_toArray, List.set_cons_zero, List.set_cons_succ])
                      refine wpT_last (by kernel_rfl) (by kernel_rfl) rfl (fun K hK => ?_)
                      clear hHeld hC5
                      go_simp
                      refine hK.out _ _ ?_
                      clear hK K
                      go_wp2
                      refine ⟨⟨_, _, _, _, _, _, _, _, _, _, _, _, _, _, _, _, _, _, _, _, _, _, _, _, _, _, _, _, _, _, _, _, _, _, _, _, _, _, _, _, _, _, _, _, _, _, _, _, _, _, _, _, _, _, _, _, _, _, _, _, _, _, _, _, _, _, _, _, _, _, _, _, _, _, _, _, _, _, _, _, _, _, _, _, _, _, _, _, _, _, _, _, _, _, _, _, _, _, _, _, _, _, _, _, _, _, _, _, _, _, _, _, _, _, _, _, _, _, _, _, _, _, _, _, _, _, _, _, _, _, _, _, _, _, _, _, _, _, _, _, _, _, _, _, _, _, _, _, _, _, _, _, _, _, _, _, _, _, _, _, _, _, _, _, _, _, _, _, _, _, _, _, _, _, _, _, ?rel, rfl⟩, ?measure⟩
                      case rel => exact ⟨k + 1, l.eraseIdx q, _, _, _, _, by omega, by go_num, rfl, by have := HLQ.out; omega, Lib.hid ⟨fun x hx => HOK.out x (List.mem_of_mem_eraseIdx hx), HF9.out⟩⟩
                      case measure => simp [intOf]; omega
              · as_aux_lemma =>
                  have Hh := Lib.hid (fl_handedS HAP.out.2 Hok.out HMq.out hsh)
                  have HSH := Lib.hid hsh
                  clear hsh
                  go_upto_region 22 with fail
                  go_cut [11, 12, 13] (fun s11 s12 s13 wx => ∃ (g : Nat) (pa : Option Addr) (pn pc : Nat) (qa : Option Addr) (qn qc : Nat) (ra : Option Addr) (rc : Nat), s11 = .pointer (some ⟨g, 0, none⟩) ∧ s12 = .pointer (some ⟨g + 1, 0, none⟩) ∧ s13 = .bool false ∧ w2.heap.size < g ∧ Hid (FL W ca n cc db w2.heap.size wx u v (l, [linkOf a t]) (some ⟨b, off, none⟩) oc l ∧ Bx wx g [.slice pa pn pc, .slice qa qn qc] ∧ Bx wx (g + 1) [.int .i64 0, .int .i64 0, .slice ra 0 rc] ∧ msgC.V wx [.int .i64 0, .int .i64 0, .slice ra 0 rc] (0, 0, []) ∧ NN wx w2.heap.size (some ⟨b, off, none⟩) (.slice pa pn pc) (.slice qa qn qc) (l.eraseIdx q, [linkOf a t])))
                  case first =>
                    have c0 := HF.out.net.cell 0 _ rfl; have c1 := HF.out.net.cell 1 _ rfl; have nbw := HF.out.size
                    go_wp2_with fail
                    refine (implHanded_c _ (l, [linkOf a t]) q _ HF.out.view).mono ?_
                    rw [Hh.out]
                    rintro e w8 ⟨u8, v8, r8, rfl, hE8, hN8⟩
                    obtain ⟨⟨pa, pc, rfl⟩, qa, qc, rfl⟩ := net_form hN8.netO
                    obtain ⟨ra, rc, rfl⟩ : ∃ a c, r8 = .slice a ((0, 0, []) : MsgD).2.2.length c := by
                      obtain ⟨v9, e9, h9⟩ := msg_V.1 hN8.msg
                      cases e9
                      exact sl_form h9
                    have HF8 := Lib.hid (HF.out.grow hE8)
                    have HN8 := Lib.hid (NN.of hN8.netO HF.out.mo (Nat.le_refl _) nbw)
                    have HV8 := Lib.hid hN8.msg
                    have z8 := hE8.size
                    clear hE8 hN8 c0 c1
                    (try simp only [List.length_append, List.length_cons, List.length_nil, Nat.zero_add] at HN8 ⊢)
                    (try simp only [List.length_nil] at HV8)
                    go_wp2
                    go_meet
                    exact ⟨w8.heap.size, _, _, _, _, _, _, _, _, rfl, rfl, rfl, by omega, Lib.hid ⟨HF8.out.grow (by repeat (first | with_reducible exact Ext.refl _ | with_reducible assumption | with_reducible refine Ext.pAlloc ?_ _ | ((with_reducible refine Ext.pSet ?_ ?_ _); rotate_left; (simp <;> omega)) | with_reducible refine Ext.pDrew ?_ | with_reducible refine Ext.pDrewN ?_ _)), (by repeat (first | with_reducible assumption | with_reducible exact Bx.new _ _ _ _ rfl | ((with_reducible refine Bx.new _ _ _ _ ?_); simp; done) | with_reducible refine Bx.pAlloc ?_ _ | with_reducible refine Bx.pDrew ?_ | with_reducible refine Bx.pDrewN ?_ _ | with_reducible apply Bx.set10 | with_reducible apply Bx.set20 | with_reducible apply Bx.set21 | with_reducible apply Bx.set30 | with_reducible apply Bx.set31 | with_reducible apply Bx.set32 | with_reducible apply Bx.set40 | with_reducible apply Bx.set41 | with_reducible apply Bx.set42 | with_reducible apply Bx.set43 | ((with_reducible refine Bx.set_other ?_ ?_ _); rotate_left; (simp <;> omega)))), (by repeat (first | with_reducible assumption | with_reducible exact Bx.new _ _ _ _ rfl | ((with_reducible refine Bx.new _ _ _ _ ?_); simp; done) | with_reducible refine Bx.pAlloc ?_ _ | with_reducible refine Bx.pDrew ?_ | with_reducible refine Bx.pDrewN ?_ _ | with_reducible apply Bx.set10 | with_reducible apply Bx.set20 | with_reducible apply Bx.set21 | with_reducible apply Bx.set30 | with_reducible apply Bx.set31 | with_reducible apply Bx.set32 | with_reducible apply Bx.set40 | with_reducible apply Bx.set41 | with_reducible apply Bx.set42 | with_reducible apply Bx.set43 | ((with_reducible refine Bx.set_other ?_ ?_ _); rotate_left; (simp <;> omega)))), msgC.vext HV8.out (by repeat (first | with_reducible exact Ext.refl _ | with_reducible assumption | with_reducible refine Ext.pAlloc ?_ _ | ((with_reducible refine Ext.pSet ?_ ?_ _); rotate_left; (simp <;> omega)) | with_reducible refine Ext.pDrew ?_ | with_reducible refine Ext.pDrewN ?_ _)), HN8.out.ext (by repeat (first | with_reducible exact Ext.refl _ | with_reducible assumption | with_reducible refine Ext.pAlloc ?_ _ | ((with_reducible refine Ext.pSet ?_ ?_ _); rotate_left; (simp <;> omega)) | with_reducible refine Ext.pDrew ?_ | with_reducible refine Ext.pDrewN ?_ _))⟩⟩
                  case rest =>
                    obtain ⟨g, pa, pn, pc, qa, qn, qc, ra, rc, rfl, rfl, rfl, hg, HX⟩ := hcut
                    obtain ⟨wd, hwd⟩ : ∃ w, w = wc := ⟨_, rfl⟩
                    subst hwd
                    clear Hh HF
                    obtain ⟨r, d0, d1, d2, fx, hfx, -⟩ := HX.out.1.mo.cells HMq.out
                    have HVr := Lib.hid (msgC.view hfx)
                    clear hfx
                    have hi1 : (0 : Int) ≤ q := by omega
                    have hi2 : (q : Int) < l.length := by omega
                    go_upto_region 23 with fail
                    go_cut [14] (fun s14 wx => s14 = .bool true ∧ wx = wd)
                    case first =>
                      skip
                      cases A1 : decide (m.1 = a) <;> cases A2 : decide (m.2.1 = t) <;> cases B1 : decide (m.1 = t) <;> cases B2 : decide (m.2.1 = a)
                      all_goals have A1' := A1
                      all_goals have A2' := A2
                      all_goals have B1' := B1
                      all_goals have B2' := B2
                      all_goals rw [← Bool.beq_eq_decide_eq] at A1' A2' B1' B2'
                      all_goals have hS9 := HSH.out
                      all_goals rw [shutB, A1, A2, B1, B2] at hS9
                      all_goals first
                        | exact absurd hS9 (by decide)
                        | (clear hS9; go_wp2_with fail; go_meet; exact ⟨rfl, rfl⟩)
                    case rest =>
                      obtain ⟨rfl, hwx⟩ := hcut
                      subst hwx
                      obtain ⟨wd, hwd⟩ : ∃ w, w = wc := ⟨_, rfl⟩
                      subst hwd
                      have e0 := HX.out.2.2.1.cell 0 _ rfl; have e1 := HX.out.2.2.1.cell 1 _ rfl; have e2 := HX.out.2.2.1.cell 2 _ rfl
                      go_wp2
                      refine wp_region_held_drew (S := fun ω => ω.cell? ⟨g + 1, 0, none⟩ = some (.int .i64 0) ∧ ω.cell? ⟨g + 1, 1, none⟩ = some (.int .i64 0) ∧ ω.cell? ⟨g + 1, 2, none⟩ = some (.slice ra 0 rc) ∧ Ext wd ω) (by kernel_rfl) ?_ (fun hHeld => ?_)
                      · (try dsimp only); exact ⟨e0, e1, e2, Ext.drew _⟩
                      refine wpAnyH_take (i := 0) (v := ?_) rfl (by kernel_rfl) (by kernel_rfl) (by kernel_rfl) (fun _ _ _ h => h) (Or.inl ⟨by rfl, ?_⟩) (by assumption) ?_
                      rotate_left
                      · intro w9 hSw; (try dsimp only at hSw); go_simp; (first | done | with_reducible rfl)
                      (try simp only [List.getElem_toArray, List.getElem_cons_succ, List.getElem_cons_zero, Act.put, List.setIfInBounds_toArray, List.set_cons_zero, List.set_cons_succ])
                      refine wpAnyH_take (i := 1) (v := ?_) rfl (by kernel_rfl) (by kernel_rfl) (by kernel_rfl) (fun _ _ _ h => h) (Or.inl ⟨by rfl, ?_⟩) (by assumption) ?_
                      rotate_left
                      · intro w9 hSw; (try dsimp only at hSw); go_simp; (first | done | with_reducible rfl)
                      (try simp only [List.getElem_toArray, List.getElem_cons_succ, List.getElem_cons_zero, Act.put, List.setIfInBounds_toArray, List.set_cons_zero, List.set_cons_succ])
                      refine wpAnyH_take (i := 2) (v := ?_) rfl (by kernel_rfl) (by kernel_rfl) (by kernel_rfl) (fun _ _ _ h => h) (Or.inl ⟨by rfl, ?_⟩) (by assumption) ?_
                      rotate_left
                      · intro w9 hSw; (try dsimp only at hSw); go_simp; (first | done | with_reducible rfl)
                      (try simp only [List.getElem_toArray, List.getElem_cons_succ, List.getElem_cons_zero, Act.put, List.setIfInBounds_toArray, List.set_cons_zero, List.set_cons_succ])
                      refine wpAnyH_take (i := 3) (v := ?_) rfl (by kernel_rfl) (by kernel_rfl) (by kernel_rfl) (fun _ _ _ h => h) (Or.inl ⟨by rfl, ?_⟩) (by assumption) ?_
                      rotate_left
                      · intro w9 hSw; (try dsimp only at hSw); go_simp; (first | done | with_reducible rfl)
                      (try simp only [List.getElem_toArray, List.getElem_cons_succ, List.getElem_cons_zero, Act.put, List.setIfInBounds_toArray, List.set_cons_zero, List.set_cons_succ])
                      refine wpAnyH_take (i := 4) (v := ?_) rfl (by kernel_rfl) (by kernel_rfl) (by kernel_rfl) (fun _ _ _ h => h) (Or.inl ⟨by rfl, ?_⟩) (by assumption) ?_
                      rotate_left
                      · intro w9 hSw; (try dsimp only at hSw); go_simp; (first | done | with_reducible rfl)
                      (try simp only [List.getElem_toArray, List.getElem_cons_succ, List.getElem_cons_zero, Act.put, List.setIfInBounds_toArray, List.set_cons_zero, List.set_cons_succ])
                      refine wpAnyH_take (i := 5) (v := ?_) rfl (by kernel_rfl) (by kernel_rfl) (by kernel_rfl) (fun _ _ _ h => h) (Or.inl ⟨by rfl, ?_⟩) (by assumption) ?_
                      rotate_left
                      · intro w9 hSw; (try dsimp only at hSw); go_simp; (first | done | with_reducible rfl)
                      (try simp only [List.getElem_toArray, List.getElem_cons_succ, List.getElem_cons_zero, Act.put, List.setIfInBounds_toArray, List.set_cons_zero, List.set_cons_succ])
                      refine wpAnyH_take (i := 6) (v := ?_) rfl (by kernel_rfl) (by kernel_rfl) (by kernel_rfl) (fun _ _ _ h => h) (Or.inl ⟨by rfl, ?_⟩) (by assumption) ?_
                      rotate_left
                      · intro w9 hSw; (try dsimp only at hSw); go_simp; (first | done | with_reducible rfl)
                      (try simp only [List.getElem_toArray, List.getElem_cons_succ, List.getElem_cons_zero, Act.put, List.setIfInBounds_toArray, List.set_cons_zero, List.set_cons_succ])
                      refine wpAnyH_take (i := 7) (v := ?_) rfl (by kernel_rfl) (by kernel_rfl) (by kernel_rfl) (fun _ _ _ h => h) (Or.inl ⟨by rfl, ?_⟩) (by assumption) ?_
                      rotate_left
                      · intro w9 hSw; (try dsimp only at hSw); go_simp; (first | done | with_reducible rfl)
                      (try simp only [List.getElem_toArray, List.getElem_cons_succ, List.getElem_cons_zero, Act.put, List.setIfInBounds_toArray, List.set_cons_zero, List.set_cons_succ])
                      refine wpAnyH_take (i := 8) (v := ?_) rfl (by kernel_rfl) (by kernel_rfl) (by kernel_rfl) (fun _ _ _ h => h) (Or.inl ⟨by rfl, ?_⟩) (by assumption) ?_
                      rotate_left
                      · intro w9 hSw; (try dsimp only at hSw); go_simp; (first | done | with_reducible rfl)
                      (try simp only [List.getElem_toArray, List.getElem_cons_succ, List.getElem_cons_zero, Act.put, List.setIfInBounds_toArray, List.set_cons_zero, List.set_cons_succ])
                      refine wpAnyH_take (i := 9) (v := ?_) rfl (by kernel_rfl) (by kernel_rfl) (by kernel_rfl) (fun _ _ _ h => h) (Or.inl ⟨by rfl, ?_⟩) (by assumption) ?_
                      rotate_left
                      · intro w9 hSw; (try dsimp only at hSw); go_simp; (first | done | with_reducible rfl)
                      (try simp only [List.getElem_toArray, List.getElem_cons_succ, List.getElem_cons_zero, Act.put, List.setIfInBounds_toArray, List.set_cons_zero, List.set_cons_succ])
                      refine wpAnyH_take (i := 10) (v := undef) rfl (by kernel_rfl) (by kernel_rfl) (by kernel_rfl) (fun _ _ _ h => h) (Or.inr ⟨by rfl, rfl⟩) (by assumption) ?_
                      (try simp only [List.getElem_toArray, List.getElem_cons_succ, List.getElem_cons_zero, Act.put, List.setIfInBounds_toArray, List.set_cons_zero, List.set_cons_succ])
                      refine wpAnyH_take (i := 11) (v := undef) rfl (by kernel_rfl) (by kernel_rfl) (by kernel_rfl) (fun _ _ _ h => h) (Or.inr ⟨by rfl, rfl⟩) (by assumption) ?_
                      (try simp only [List.getElem_toArray, List.getElem_cons_succ, List.getElem_cons_zero, Act.put, List.setIfInBounds_toArray, List.set_cons_zero, List.set_cons_succ])
                      refine wpAnyH_take (i := 12) (v := undef) rfl (by kernel_rfl) (by kernel_rfl) (by kernel_rfl) (fun _ _ _ h => h) (Or.inr ⟨by rfl, rfl⟩) (by assumption) ?_
                      (try simp only [List.getElem_toArray, List.getElem_cons_succ, List.getElem_cons_zero, Act.put, List.setIfInBounds_toArray, List.set_cons_zero, List.set_cons_succ])
                      refine wpAnyH_take (i := 13) (v := undef) rfl (by kernel_rfl) (by kernel_rfl) (by kernel_rfl) (fun _ _ _ h => h) (Or.inr ⟨by rfl, rfl⟩) (by assumption) ?_
                      (try simp only [List.getElem_toArray, List.getElem_cons_succ, List.getElem_cons_zero, Act.put, List.setIfInBounds_toArray, List.set_cons_zero, List.set_cons_succ])
                      refine wpAnyH_take (i := 14) (v := undef) rfl (by kernel_rfl) (by kernel_rfl) (by kernel_rfl) (fun _ _ _ h => h) (Or.inr ⟨by rfl, rfl⟩) (by assumption) ?_
                      (try simp only [List.getElem_toArray, List.getElem_cons_succ, List.getElem_cons_zero, Act.put, List.setIfInBounds_toArray, List.set_cons_zero, List.set_cons_succ])
                      refine wpAnyH_take (i := 15) (v := undef) rfl (by kernel_rfl) (by kernel_rfl) (by kernel_rfl) (fun _ _ _ h => h) (Or.inr ⟨by rfl, rfl⟩) (by assumption) ?_
                      (try simp only [List.getElem_toArray, List.getElem_cons_succ, List.getElem_cons_zero, Act.put, List.setIfInBounds_toArray, List.set_cons_zero, List.set_cons_succ])
                      refine wpAnyH_take (i := 16) (v := undef) rfl (by kernel_rfl) (by kernel_rfl) (by kernel_rfl) (fun _ _ _ h => h) (Or.inr ⟨by rfl, rfl⟩) (by assumption) ?_
                      (try simp only [List.getElem_toArray, List.getElem_cons_succ, List.getElem_cons_zero, Act.put, List.setIfInBounds_toArray, List.set_cons_zero, List.set_cons_succ])
                      refine wpAnyH_take (i := 17) (v := ?_) rfl (by kernel_rfl) (by kernel_rfl) (by kernel_rfl) (fun _ _ _ h => h) (Or.inl ⟨by rfl, ?_⟩) (by assumption) ?_
                      rotate_left
                      · intro w9 hSw; (try dsimp only at hSw); go_simp; (first | done | with_reducible rfl)
                      (try simp only [List.getElem_toArray, List.getElem_cons_succ, List.getElem_cons_zero, Act.put, List.setIfInBounds_toArray, List.set_cons_zero, List.set_cons_succ])
                      refine wpAnyH_take (i := 18) (v := ?_) rfl (by kernel_rfl) (by kernel_rfl) (by kernel_rfl) (fun _ _ _ h => h) (Or.inl ⟨by rfl, ?_⟩) (by assumption) ?_
                      rotate_left
                      · intro w9 hSw; (try dsimp only at hSw); go_simp; (first | done | with_reducible rfl)
                      (try simp only [List.getElem_toArray, List.getElem_cons_succ, List.getElem_cons_zero, Act.put, List.setIfInBounds_toArray, List.set_cons_zero, List.set_cons_succ])
                      refine wpAnyH_take (i := 19) (v := ?_) rfl (by kernel_rfl) (by kernel_rfl) (by kernel_rfl) (fun _ _ _ h => h) (Or.inl ⟨by rfl, ?_⟩) (by assumption) ?_
                      rotate_left
                      · intro w9 hSw; (try dsimp only at hSw); go_simp; (first | done | with_reducible rfl)
                      (try simp only [List.getElem_toArray, List.getElem_cons_succ, List.getElem_cons_zero, Act.put, List.setIfInBounds_toArray, List.set_cons_zero, List.set_cons_succ])
                      refine wpAnyH_take (i := 20) (v := ?_) rfl (by kernel_rfl) (by kernel_rfl) (by kernel_rfl) (fun _ _ _ h => h) (Or.inl ⟨by rfl, ?_⟩) (by assumption) ?_
                      rotate_left
                      · intro w9 hSw; (try dsimp only at hSw); go_simp; (first | done | with_reducible rfl)
                      (try simp only [List.getElem_toArray, List.getElem_cons_succ, List.getElem_cons_zero, Act.put, List.setIfInBounds_toArray, List.set_cons_zero, List.set_cons_succ])
                      refine wpAnyH_take (i := 21) (v := ?_) rfl (by kernel_rfl) (by kernel_rfl) (by kernel_rfl) (fun _ _ _ h => h) (Or.inl ⟨by rfl, ?_⟩) (by assumption) ?_
                      rotate_left
                      · intro w9 hSw; (try dsimp only at hSw); go_simp; (first | done | with_reducible rfl)
                      (try simp only [List.getElem_toArray, List.getElem_cons_succ, List.getElem_cons_zero, Act.put, List.setIfInBounds_toArray, List.set_cons_zero, List.set_cons_succ])
                      refine wpAnyH_take (i := 22) (v := ?_) rfl (by kernel_rfl) (by kernel_rfl) (by kernel_rfl) (fun _ _ _ h => h) (Or.inl ⟨by rfl, ?_⟩) (by assumption) ?_
                      rotate_left
                      · intro w9 hSw; (try dsimp only at hSw); go_simp; (first | done | with_reducible rfl)
                      (try simp only [List.getElem_toArray, List.getElem_cons_succ, List.getElem_cons_zero, Act.put, List.setIfInBounds_toArray, List.set_cons_zero, List.set_cons_succ])
                      refine wpAnyH_take (i := 23) (v := ?_) rfl (by kernel_rfl) (by kernel_rfl) (by kernel_rfl) (fun _ _ _ h => h) (Or.inl ⟨by rfl, ?_⟩) (by assumption) ?_
                      rotate_left
                      · intro w9 hSw; (try dsimp only at hSw); go_simp; (first | done | with_reducible rfl)
                      (try simp only [List.getElem_toArray, List.getElem_cons_succ, List.getElem_cons_zero, Act.put, List.setIfInBounds_toArray, List.set_cons_zero, List.set_cons_succ])
                      refine wpAnyH_take (i := 24) (v := ?_) rfl (by kernel_rfl) (by kernel_rfl) (by kernel_rfl) (fun _ _ _ h => h) (Or.inl ⟨by rfl, ?_⟩) (by assumption) ?_
                      rotate_left
                      · intro w9 hSw; (try dsimp only at hSw); go_simp; (first | done | with_reducible rfl)
                      (try simp only [List.getElem_toArray, List.getElem_cons_succ, List.getElem_cons_zero, Act.put, List.setIfInBounds_toArray, List.set_cons_zero, List.set_cons_succ])
                      refine wpAnyH_take (i := 25) (v := ?_) rfl (by kernel_rfl) (by kernel_rfl) (by kernel_rfl) (fun _ _ _ h => h) (Or.inl ⟨by rfl, ?_⟩) (by assumption) ?_
                      rotate_left
                      · intro w9 hSw; (try dsimp only at hSw); go_simp; (first | done | with_reducible rfl)
                      (try simp only [List.getElem_toArray, List.getElem_cons_succ, List.getElem_cons_zero, Act.put, List.setIfInBounds_toArray, List.set_cons_zero, List.set_cons_succ])
                      refine wpAnyH_take (i := 26) (v := ?_) rfl (by kernel_rfl) (by kernel_rfl) (by kernel_rfl) (fun _ _ _ h => h) (Or.inl ⟨by rfl, ?_⟩) (by assumption) ?_
                      rotate_left
                      · intro w9 hSw; (try dsimp only at hSw); go_simp; (first | done | with_reducible rfl)
                      (try simp only [List.getElem_toArray, List.getElem_cons_succ, List.getElem_cons_zero, Act.put, List.setIfInBounds_toArray, List.set_cons_zero, List.set_cons_succ])
                      refine wpAnyH_take (i := 27) (v := ?_) rfl (by kernel_rfl) (by kernel_rfl) (by kernel_rfl) (fun _ _ _ h => h) (Or.inl ⟨by rfl, ?_⟩) (by assumption) ?_
                      rotate_left
                      · intro w9 hSw; (try dsimp only at hSw); go_simp; (first | done | with_reducible rfl)
                      (try simp only [List.getElem_toArray, List.getElem_cons_succ, List.getElem_cons_zero, Act.put, List.setIfInBounds_toArray, List.set_cons_zero, List.set_cons_succ])
                      refine wpAnyH_take (i := 28) (v := ?_) rfl (by kernel_rfl) (by kernel_rfl) (by kernel_rfl) (fun _ _ _ h => h) (Or.inl ⟨by rfl, ?_⟩) (by assumption) ?_
                      rotate_left
                      · intro w9 hSw; (try dsimp only at hSw); go_simp; (first | done | with_reducible rfl)
                      (try simp only [List.getElem_toArray, List.getElem_cons_succ, List.getElem_cons_zero, Act.put, List.setIfInBounds_toArray, List.set_cons_zero, List.set_cons_succ])
                      refine wpAnyH_done (by kernel_rfl) ?_ _
                      have HF9 := Lib.hid HX.out.1
                      have HB9 := Lib.hid HX.out.2.1
                      have HN9 := Lib.hid HX.out.2.2.2.2
                      clear hHeld e0 e1 e2 HX d0 d1 d2 HVr hi1 hi2
                      have g0 := HB9.out.cell 0 _ rfl; have g1 := HB9.out.cell 1 _ rfl; have fn := HF9.out.net.fr; have ln := HF9.out.net.lt; have c0 := HF9.out.net.cell 0 _ rfl; have c1 := HF9.out.net.cell 1 _ rfl
                      have HF := Lib.hid ((HF9.out.put HN9.out).grow (Ext.drew _))
                      go_upto_region 28 with fail
                      clear HF9 HN9 HB9 g0 g1 fn ln c0 c1
                      generalize (((World.setCell wd ⟨w2.heap.size, 0, none⟩ (.slice pa pn pc)).setCell ⟨w2.heap.size, 1, none⟩ (.slice qa qn qc))).drew = wf at *
                      obtain ⟨b', off', x1, r, x2, f1, fx, f2, eA, hS, he1, hc, he2, hx1, hx2, hfs, hbn⟩ := HF.out.mo.parts HMq.out
                      cases eA
                      have HP : Hid (CellsAt wf (some ⟨b, off, none⟩) x1) := Lib.hid hS.cells.pre
                      have HSF : Hid (CellsAt wf (if oc = q + 1 then some ⟨b, off, none⟩ else some ⟨b, off + (q + 1) * 3, none⟩) x2) := by
                        split
                        · have h9 : x2 = [] := List.eq_nil_of_length_eq_zero (by have h9 : l.length ≤ oc := (by obtain ⟨_, _, h9, _⟩ := HF.out.mo; exact h9); rw [hx2]; omega)
                          subst h9
                          exact fun j u hj => by simp at hj
                        have hcl := hS.cells
                        rw [← List.append_assoc] at hcl
                        exact hcl.suf (k := (q + 1) * 3) (by rw [List.length_append, hx1]; show q * 3 + 3 = _; omega)
                      have hfl : ∀ z ∈ f1 ++ f2, w2.heap.size < z ∧ z < wf.heap.size := fun z hz => by
                        rcases List.mem_append.1 hz with h9 | h9
                        · exact ⟨(hfs z (.inl h9)).1, elemsO_lt msgC he1 z h9⟩
                        · exact ⟨(hfs z (.inr (.inr h9))).1, elemsO_lt msgC he2 z h9⟩
                      have hlc : l.length ≤ oc := by obtain ⟨_, _, h9, _⟩ := HF.out.mo; exact h9
                      have hcm : oc ≤ 9223372036854775807 := by obtain ⟨_, _, _, h9, _⟩ := HF.out.mo; exact h9
                      have HX := Lib.hid (And.intro hx1 hx2)
                      have HE := Lib.hid (And.intro he1 he2)
                      have HFL := Lib.hid hfl
                      have nbw : w2.heap.size < wf.heap.size := HF.out.size
                      clear hS he1 hc he2 hx1 hx2 hfs hfl
                      have hk0 : decide ((q : Int) < 0) = false := by simp
                      have hi1 : (0 : Int) ≤ q := by omega
                      have hi2 : (q : Int) ≤ oc := by omega
                      have hi3 : (q : Int) + 1 ≤ l.length := by omega
                      have hi4 : (q : Int) ≤ l.length := by omega
                      have hi5 : (l.length : Int) ≤ oc := by omega
                      have hi6 : (0 : Int) ≤ (q : Int) + 1 := by omega
                      have hwq1 : IntKind.i64.wrap ((q : Int) + 1) = q + 1 := IntWalk.i64_in _ (by omega)
                      go_wp2
                      refine wp_region_T (S := fun ω => Ext wf ω) 10 (by kernel_rfl) ?_ (fun hHeld => ?_) (by decide)
                      · (try dsimp only); exact Ext.drew _
                      refine wpT_take (i := 1) (v := ?_) rfl (by kernel_rfl) (by decide) (by kernel_rfl) (by kernel_rfl) (by kernel_rfl) (fun _ _ _ h => h) (Or.inl ⟨by rfl, ?_⟩) (by assumption) ?_
                      rotate_left
                      · intro w9 hSw; (try dsimp only at hSw); go_simp; (first | done | with_reducible rfl)
                      (try simp only [List.getElem_toArray, List.getElem_cons_succ, List.getElem_cons_zero, Act.put, List.setIfInBounds_toArray, List.set_cons_zero, List.set_cons_succ])
                      refine wpT_take (i := 2) (v := ?_) rfl (by kernel_rfl) (by decide) (by kernel_rfl) (by kernel_rfl) (by kernel_rfl) (fun _ _ _ h => h) (Or.inl ⟨by rfl, ?_⟩) (by assumption) ?_
                      rotate_left
                      · intro w9 hSw; (try dsimp only at hSw); go_simp; (first | done | with_reducible rfl)
                      (try simp only [List.getElem_toArray, List.getElem_cons_succ, List.getElem_cons_zero, Act.put, List.setIfInBounds_toArray, List.set_cons_zero, List.set_cons_succ])
                      refine wpT_take (i := 3) (v := ?_) rfl (by kernel_rfl) (by decide) (by kernel_rfl) (by kernel_rfl) (by kernel_rfl) (fun _ _ _ h => h) (Or.inl ⟨by rfl, ?_⟩) (by assumption) ?_
                      rotate_left
                      · intro w9 hSw; (try dsimp only at hSw); go_simp; (first | done | with_reducible rfl)
                      (try simp only [List.getElem_toArray, List.getElem_cons_succ, List.getElem_cons_zero, Act.put, List.setIfInBounds_toArray, List.set_cons_zero, List.set_cons_succ])
                      refine wpT_take (i := 5) (v := ?_) rfl (by kernel_rfl) (by decide) (by kernel_rfl) (by kernel_rfl) (by kernel_rfl) (fun _ _ _ h => h) (Or.inl ⟨by rfl, ?_⟩) (by assumption) ?_
                      rotate_left
                      · intro w9 hSw; (try dsimp only at hSw); go_simp; (first | done | with_reducible rfl)
                      (try simp only [List.getElem_toArray, List.getElem_cons_succ, List.getElem_cons_zero, Act.put, List.setIfInBounds_toArray, List.set_cons_zero, List.set_cons_succ])
                      refine wpT_take (i := 6) (v := ?_) rfl (by kernel_rfl) (by decide) (by kernel_rfl) (by kernel_rfl) (by kernel_rfl) (fun _ _ _ h => h) (Or.inl ⟨by rfl, ?_⟩) (by assumption) ?_
                      rotate_left
                      · intro w9 hSw; (try dsimp only at hSw); go_simp; (first | done | with_reducible rfl)
                      (try simp only [List.getElem_toArray, List.getElem_cons_succ, List.getElem_cons_zero, Act.put, List.setIfInBounds_toArray, List.set_cons_zero, List.set_cons_succ])
                      refine wpT_take (i := 7) (v := ?_) rfl (by kernel_rfl) (by decide) (by kernel_rfl) (by kernel_rfl) (by kernel_rfl) (fun _ _ _ h => h) (Or.inl ⟨by rfl, ?_⟩) (by assumption) ?_
                      rotate_left
                      · intro w9 hSw; (try dsimp only at hSw); go_simp; (first | done | with_reducible rfl)
                      (try simp only [List.getElem_toArray, List.getElem_cons_succ, List.getElem_cons_zero, Act.put, List.setIfInBounds_toArray, List.set_cons_zero, List.set_cons_succ])
                      obtain ⟨v8, hv8⟩ : ∃ v, v = Value.slice (if oc = q + 1 then some ⟨b, off, none⟩ else some ⟨b, off + (q + 1) * 3, none⟩) (l.length - (q + 1)) (oc - (q + 1)) := ⟨_, rfl⟩
                      have HV8 := Lib.hid hv8
                      clear hv8
                      refine wpT_take (i := 8) (v := v8) rfl (by kernel_rfl) (by decide) (by kernel_rfl) (by kernel_rfl) (by kernel_rfl) (fun _ _ _ h => h) (Or.inl ⟨by rfl, ?_⟩) (by assumption) ?_
                      · intro w9 hSw; (try dsimp only at hSw); rw [HV8.out]; go_simp; (first | done | with_reducible rfl | rfl)
                      (try simp only [List.getElem_toArray, List.getElem_cons_succ, List.getElem_cons_zero, Act.put, List.setIfInBounds_toArray, List.set_cons_zero, List.set_cons_succ])
                      refine wpT_step (i := 0) (by kernel_rfl) (by decide) rfl (fun K hK => ?_)
                      go_simp
                      refine hK.out _ _ ?_ (fun hHeld2 => ?_)
                      · (try dsimp only); exact hHeld.trans (Ext.alloc _ _)
                      clear hK K hHeld
                      rename _ => hHeld
                      (try simp only [List.getElem_toArray, List.getElem_cons_succ, List.getElem_cons_zero, Act.put, List.setIfInBounds_toArray, List.set_cons_zero, List.set_cons_succ])
                      refine wpT_step (i := 4) (by kernel_rfl) (by decide) rfl (fun K hK => ?_)
                      rw [if_pos (by rfl)]
                      refine opwp_append_sl _ _ _ (by rfl) 40 _ 3 40 Try.underlying27 Hinf.out (by rfl) _ 0 0 [] (by rfl) rfl (SlAt.litAt _ _ _ _ (by simp)) (Nat.le_refl _) (by omega) _ q _ x1 (by rfl) HX.out.1 (HP.out.ext hHeld) (elemsO_one HE.out.1) (by omega) ?_
                      intro a4 c4 w16 hs4 hle4 hm4 hA4
                      (try simp only [Nat.zero_add, List.nil_append] at hs4 hle4)
                      (try simp only [Nat.zero_add])
                      have hC4 := hA4.chg (lo := wf.heap.size) (hi := wf.heap.size + 1) (by simp [ablk])
                      have hat4 : ∀ b ∈ ablk a4, wf.heap.size ≤ b := fun b hb => by rcases hA4.mem hb with h9 | ⟨h9, _⟩ <;> (try simp [ablk] at h9) <;> omega
                      have zz4 : wf.heap.size + 1 ≤ w16.heap.size := by have := hC4.size; (try simp at this); omega
                      refine hK.out _ _ ?_ (fun hHeld2 => ?_)
                      · (try dsimp only); exact Chg.ext hHeld hC4 (by omega)
                      clear hK K hHeld
                      rename _ => hHeld
                      (try simp only [List.getElem_toArray, List.getElem_cons_succ, List.getElem_cons_zero, Act.put, List.setIfInBounds_toArray, List.set_cons_zero, List.set_cons_succ])
                      refine wpT_step (i := 9) (by kernel_rfl) (by decide) rfl (fun K hK => ?_)
                      rw [if_pos (by rfl)]
                      refine opwp_append_sl _ _ _ (by rfl) 40 _ 3 40 Try.underlying27 Hinf.out (by rfl) _ q c4 x1 (by rfl) HX.out.1 hs4 hle4 hm4 _ (l.length - (q + 1)) _ x2 (by exact HV8.out) HX.out.2 (HSF.out.ext hHeld) (elemsO_one HE.out.2) (by omega) ?_
                      intro a5 c5 w17 hs5 hle5 hm5 hA5
                      have hln : (l.eraseIdx q).length = l.length - 1 := List.length_eraseIdx_of_lt hq
                      have hlq : q + (l.length - (q + 1)) = (l.eraseIdx q).length := by omega
                      rw [hlq] at hle5
                      rw [hlq]
                      have hC5 : Chg wf.heap.size w17.heap.size w16 w17 := (hA5.chg (lo := wf.heap.size) (hi := w16.heap.size) (fun b hb => ⟨hat4 b hb, hs4.lt b hb⟩)).wide (Nat.le_refl _) hA5.size
                      have hat5 : ∀ b ∈ ablk a5, wf.heap.size ≤ b := fun b hb => by rcases hA5.mem hb with h9 | ⟨h9, _⟩; exact hat4 b h9; omega
                      have hEr := List.eraseIdx_eq_take_drop_succ l q
                      have hCC : Chg wf.heap.size w17.heap.size wf w17 := ((((Ext.alloc _ _).trans (Ext.drew _)).chg wf.heap.size w17.heap.size).trans (hC4.wide (Nat.le_refl _) (by have := hA5.size; omega))).trans hC5
                      have hXX : Ext wf w17 := Chg.ext (Ext.refl _) hCC (Nat.le_refl _)
                      have hMM : MO w17 w2.heap.size a5 c5 (l.eraseIdx q) := by
                        refine MO.of_app (n := (l.eraseIdx q).length) (f := f1 ++ f2) hs5 (by rw [hEr]; exact elemsO_join HE.out.1 HE.out.2) (fun b hb => hXX.block b (HFL.out b hb).2) rfl hle5 hm5 (fun b hb => ⟨(HFL.out b hb).1, fun h9 => by have := hat5 b h9; have := (HFL.out b hb).2; omega⟩) (fun b hb => by have := hat5 b hb; omega)
                      have HF9 := Lib.hid (HF.out.fresh hXX hMM hat5)
                      have HLQ := Lib.hid hln
                      clear hs5 hs4 hA5 hA4 hat4 hat5 hlq hEr hln hCC hXX hMM hC4
                      refine hK.out _ _ ?_ (fun hHeld2 => ?_)
                      · (try dsimp only); exact Chg.ext hHeld hC5 (by omega)
                      clear hK K hHeld
                      rename _ => hHeld
                      (try simp only [List.getElem_toArray, List.getElem_cons_succ, List.getElem_cons_zero, Act.put, List.setIfInBounds_toArray, List.set_cons_zero, List.set_cons_succ])
                      refine wpT_last (by kernel_rfl) (by kernel_rfl) rfl (fun K hK => ?_)
                      clear hHeld hC5
                      go_simp
                      refine hK.out _ _ ?_
                      clear hK K
                      go_wp2
                      refine ⟨⟨_, _, _, _, _, _, _, _, _, _, _, _, _, _, _, _, _, _, _, _, _, _, _, _, _, _, _, _, _, _, _, _, _, _, _, _, _, _, _, _, _, _, _, _, _, _, _, _, _, _, _, _, _, _, _, _, _, _, _, _, _, _, _, _, _, _, _, _, _, _, _, _, _, _, _, _, _, _, _, _, _, _, _, _, _, _, _, _, _, _, _, _, _, _, _, _, _, _, _, _, _, _, _, _, _, _, _, _, _, _, _, _, _, _, _, _, _, _, _, _, _, _, _, _, _, _, _, _, _, _, _, _, _, _, _, _, _, _, _, _, _, _, _, _, _, _, _, _, _, _, _, _, _, _, _, _, _, _, _, _, _, _, _, _, _, _, _, _, _, _, _, _, _, _, _, _, ?rel, rfl⟩, ?measure⟩
                      case rel => exact ⟨k + 1, l.eraseIdx q, _, _, _, _, by omega, by go_num, rfl, by have := HLQ.out; omega, Lib.hid ⟨fun x hx => HOK.out x (List.mem_of_mem_eraseIdx hx), HF9.out⟩⟩
                      case measure => simp [intOf]; omega
          have x0 : decide (x = 0) = false := by rw [decide_eq_false_iff_not]; exact e0
          have x0b : (x == 0) = false := by rw [beq_eq_false_iff_ne]; exact e0
          clear e0
          by_cases e1 : x = 1
          · as_aux_lemma =>
              have x1 : decide (x = 1) = true := by rw [decide_eq_true_iff]; exact e1
              have x1b : (x == 1) = true := by rw [beq_iff_eq]; exact e1
              clear e1
              have Hh := Lib.hid (fl_lost Hok.out hq)
              go_upto_region 30 with fail
              go_cut [15, 16] (fun s15 s16 wx => ∃ (g : Nat) (pa : Option Addr) (pn pc : Nat) (qa : Option Addr) (qn qc : Nat), s15 = .pointer (some ⟨g, 0, none⟩) ∧ s16 = .bool true ∧ w2.heap.size < g ∧ Hid (FL W ca n cc db w2.heap.size wx u v (l, [linkOf a t]) (some ⟨b, off, none⟩) oc l ∧ Bx wx g [.slice pa pn pc, .slice qa qn qc] ∧ NN wx w2.heap.size (some ⟨b, off, none⟩) (.slice pa pn pc) (.slice qa qn qc) (l.eraseIdx q, [linkOf a t])))
              case first =>
                have c0 := HF.out.net.cell 0 _ rfl; have c1 := HF.out.net.cell 1 _ rfl; have nbw := HF.out.size
                skip
                go_wp2_with fail
                refine (implLost_c _ (l, [linkOf a t]) q _ HF.out.view).mono ?_
                rw [Hh.out]
                rintro e w8 ⟨u8, v8, rfl, hE8, hN8⟩
                obtain ⟨⟨pa, pc, rfl⟩, qa, qc, rfl⟩ := net_form hN8
                have HF8 := Lib.hid (HF.out.grow hE8)
                skip
                have HN8 := Lib.hid (NN.of hN8 HF.out.mo (Nat.le_refl _) nbw)
                have z8 := hE8.size
                clear hE8 hN8 c0 c1
                (try simp only [List.length_append, List.length_cons, List.length_nil, Nat.zero_add] at HN8 ⊢)
                go_wp2
                go_meet
                exact ⟨w8.heap.size, _, _, _, _, _, _, rfl, rfl, by omega, Lib.hid ⟨HF8.out.grow (by repeat (first | with_reducible exact Ext.refl _ | with_reducible assumption | with_reducible refine Ext.pAlloc ?_ _ | ((with_reducible refine Ext.pSet ?_ ?_ _); rotate_left; (simp <;> omega)) | with_reducible refine Ext.pDrew ?_ | with_reducible refine Ext.pDrewN ?_ _)), (by repeat (first | with_reducible assumption | with_reducible exact Bx.new _ _ _ _ rfl | ((with_reducible refine Bx.new _ _ _ _ ?_); simp; done) | with_reducible refine Bx.pAlloc ?_ _ | with_reducible refine Bx.pDrew ?_ | with_reducible refine Bx.pDrewN ?_ _ | with_reducible apply Bx.set10 | with_reducible apply Bx.set20 | with_reducible apply Bx.set21 | with_reducible apply Bx.set30 | with_reducible apply Bx.set31 | with_reducible apply Bx.set32 | with_reducible apply Bx.set40 | with_reducible apply Bx.set41 | with_reducible apply Bx.set42 | with_reducible apply Bx.set43 | ((with_reducible refine Bx.set_other ?_ ?_ _); rotate_left; (simp <;> omega)))), HN8.out.ext (by repeat (first | with_reducible exact Ext.refl _ | with_reducible assumption | with_reducible refine Ext.pAlloc ?_ _ | ((with_reducible refine Ext.pSet ?_ ?_ _); rotate_left; (simp <;> omega)) | with_reducible refine Ext.pDrew ?_ | with_reducible refine Ext.pDrewN ?_ _))⟩⟩
              case rest =>
                obtain ⟨g, pa, pn, pc, qa, qn, qc, rfl, rfl, hg, HX⟩ := hcut
                obtain ⟨wd, hwd⟩ : ∃ w, w = wc := ⟨_, rfl⟩
                subst hwd
                clear Hh HF
                have HF9 := Lib.hid HX.out.1
                have HB9 := Lib.hid HX.out.2.1
                have HN9 := Lib.hid HX.out.2.2
                clear HX
                have g0 := HB9.out.cell 0 _ rfl; have g1 := HB9.out.cell 1 _ rfl; have fn := HF9.out.net.fr; have ln := HF9.out.net.lt; have c0 := HF9.out.net.cell 0 _ rfl; have c1 := HF9.out.net.cell 1 _ rfl
                have HF := Lib.hid (HF9.out.put HN9.out)
                go_upto_region 35 with fail
                clear HF9 HN9 HB9 g0 g1 fn ln c0 c1
                generalize ((World.setCell wd ⟨w2.heap.size, 0, none⟩ (.slice pa pn pc)).setCell ⟨w2.heap.size, 1, none⟩ (.slice qa qn qc)) = wf at *
                obtain ⟨b', off', x1, r, x2, f1, fx, f2, eA, hS, he1, hc, he2, hx1, hx2, hfs, hbn⟩ := HF.out.mo.parts HMq.out
                cases eA
                have HP : Hid (CellsAt wf (some ⟨b, off, none⟩) x1) := Lib.hid hS.cells.pre
                have HSF : Hid (CellsAt wf (if oc = q + 1 then some ⟨b, off, none⟩ else some ⟨b, off + (q + 1) * 3, none⟩) x2) := by
                  split
                  · have h9 : x2 = [] := List.eq_nil_of_length_eq_zero (by have h9 : l.length ≤ oc := (by obtain ⟨_, _, h9, _⟩ := HF.out.mo; exact h9); rw [hx2]; omega)
                    subst h9
                    exact fun j u hj => by simp at hj
                  have hcl := hS.cells
                  rw [← List.append_assoc] at hcl
                  exact hcl.suf (k := (q + 1) * 3) (by rw [List.length_append, hx1]; show q * 3 + 3 = _; omega)
                have hfl : ∀ z ∈ f1 ++ f2, w2.heap.size < z ∧ z < wf.heap.size := fun z hz => by
                  rcases List.mem_append.1 hz with h9 | h9
                  · exact ⟨(hfs z (.inl h9)).1, elemsO_lt msgC he1 z h9⟩
                  · exact ⟨(hfs z (.inr (.inr h9))).1, elemsO_lt msgC he2 z h9⟩
                have hlc : l.length ≤ oc := by obtain ⟨_, _, h9, _⟩ := HF.out.mo; exact h9
                have hcm : oc ≤ 9223372036854775807 := by obtain ⟨_, _, _, h9, _⟩ := HF.out.mo; exact h9
                have HX := Lib.hid (And.intro hx1 hx2)
                have HE := Lib.hid (And.intro he1 he2)
                have HFL := Lib.hid hfl
                have nbw : w2.heap.size < wf.heap.size := HF.out.size
                clear hS he1 hc he2 hx1 hx2 hfs hfl
                have hk0 : decide ((q : Int) < 0) = false := by simp
                have hi1 : (0 : Int) ≤ q := by omega
                have hi2 : (q : Int) ≤ oc := by omega
                have hi3 : (q : Int) + 1 ≤ l.length := by omega
                have hi4 : (q : Int) ≤ l.length := by omega
                have hi5 : (l.length : Int) ≤ oc := by omega
                have hi6 : (0 : Int) ≤ (q : Int) + 1 := by omega
                have hwq1 : IntKind.i64.wrap ((q : Int) + 1) = q + 1 := IntWalk.i64_in _ (by omega)
                go_wp2
                refine wp_region_T (S := fun ω => Ext wf ω) 10 (by kernel_rfl) ?_ (fun hHeld => ?_) (by decide)
                · (try dsimp only); exact Ext.drew _
                refine wpT_take (i := 1) (v := ?_) rfl (by kernel_rfl) (by decide) (by kernel_rfl) (by kernel_rfl) (by kernel_rfl) (fun _ _ _ h => h) (Or.inl ⟨by rfl, ?_⟩) (by assumption) ?_
                rotate_left
                · intro w9 hSw; (try dsimp only at hSw); go_simp; (first | done | with_reducible rfl)
                (try simp only [List.getElem_toArray, List.getElem_cons_succ, List.getElem_cons_zero, Act.put, List.setIfInBounds_toArray, List.set_cons_zero, List.set_cons_succ])
                refine wpT_take (i := 2) (v := ?_) rfl (by kernel_rfl) (by decide) (by kernel_rfl) (by kernel_rfl) (by kernel_rfl) (fun _ _ _ h => h) (Or.inl ⟨by rfl, ?_⟩) (by assumption) ?_
                rotate_left
                · intro w9 hSw; (try dsimp only at hSw); go_simp; (first | done | with_reducible rfl)
                (try simp only [List.getElem_toArray, List.getElem_cons_succ, List.getElem_cons_zero, Act.put, List.setIfInBounds_toArray, List.set_cons_zero, List.set_cons_succ])
                refine wpT_take (i := 3) (v := ?_) rfl (by kernel_rfl) (by decide) (by kernel_rfl) (by kernel_rfl) (by kernel_rfl) (fun _ _ _ h => h) (Or.inl ⟨by rfl, ?_⟩) (by assumption) ?_
                rotate_left
                · intro w9 hSw; (try dsimp only at hSw); go_simp; (first | done | with_reducible rfl)
                (try simp only [List.getElem_toArray, List.getElem_cons_succ, List.getElem_cons_zero, Act.put, List.setIfInBounds_toArray, List.set_cons_zero, List.set_cons_succ])
                refine wpT_take (i := 5) (v := ?_) rfl (by kernel_rfl) (by decide) (by kernel_rfl) (by kernel_rfl) (by kernel_rfl) (fun _ _ _ h => h) (Or.inl ⟨by rfl, ?_⟩) (by assumption) ?_
                rotate_left
                · intro w9 hSw; (try dsimp only at hSw); go_simp; (first | done | with_reducible rfl)
                (try simp only [List.getElem_toArray, List.getElem_cons_succ, List.getElem_cons_zero, Act.put, List.setIfInBounds_toArray, List.set_cons_zero, List.set_cons_succ])
                refine wpT_take (i := 6) (v := ?_) rfl (by kernel_rfl) (by decide) (by kernel_rfl) (by kernel_rfl) (by kernel_rfl) (fun _ _ _ h => h) (Or.inl ⟨by rfl, ?_⟩) (by assumption) ?_
                rotate_left
                · intro w9 hSw; (try dsimp only at hSw); go_simp; (first | done | with_reducible rfl)
                (try simp only [List.getElem_toArray, List.getElem_cons_succ, List.getElem_cons_zero, Act.put, List.setIfInBounds_toArray, List.set_cons_zero, List.set_cons_succ])
                refine wpT_take (i := 7) (v := ?_) rfl (by kernel_rfl) (by decide) (by kernel_rfl) (by kernel_rfl) (by kernel_rfl) (fun _ _ _ h => h) (Or.inl ⟨by rfl, ?_⟩) (by assumption) ?_
                rotate_left
                · intro w9 hSw; (try dsimp only at hSw); go_simp; (first | done | with_reducible rfl)
                (try simp only [List.getElem_toArray, List.getElem_cons_succ, List.getElem_cons_zero, Act.put, List.setIfInBounds_toArray, List.set_cons_zero, List.set_cons_succ])
                obtain ⟨v8, hv8⟩ : ∃ v, v = Value.slice (if oc = q + 1 then some ⟨b, off, none⟩ else some ⟨b, off + (q + 1) * 3, none⟩) (l.length - (q + 1)) (oc - (q + 1)) := ⟨_, rfl⟩
                have HV8 := Lib.hid hv8
                clear hv8
                refine wpT_take (i := 8) (v := v8) rfl (by kernel_rfl) (by decide) (by kernel_rfl) (by kernel_rfl) (by kernel_rfl) (fun _ _ _ h => h) (Or.inl ⟨by rfl, ?_⟩) (by assumption) ?_
                · intro w9 hSw; (try dsimp only at hSw); rw [HV8.out]; go_simp; (first | done | with_reducible rfl | rfl)
                (try simp only [List.getElem_toArray, List.getElem_cons_succ, List.getElem_cons_zero, Act.put, List.setIfInBounds_toArray, List.set_cons_zero, List.set_cons_succ])
                refine wpT_step (i := 0) (by kernel_rfl) (by decide) rfl (fun K hK => ?_)
                go_simp
                refine hK.out _ _ ?_ (fun hHeld2 => ?_)
                · (try dsimp only); exact hHeld.trans (Ext.alloc _ _)
                clear hK K hHeld
                rename _ => hHeld
                (try simp only [List.getElem_toArray, List.getElem_cons_succ, List.getElem_cons_zero, Act.put, List.setIfInBounds_toArray, List.set_cons_zero, List.set_cons_succ])
                refine wpT_step (i := 4) (by kernel_rfl) (by decide) rfl (fun K hK => ?_)
                rw [if_pos (by rfl)]
                refine opwp_append_sl _ _ _ (by rfl) 40 _ 3 40 Try.underlying27 Hinf.out (by rfl) _ 0 0 [] (by rfl) rfl (SlAt.litAt _ _ _ _ (by simp)) (Nat.le_refl _) (by omega) _ q _ x1 (by rfl) HX.out.1 (HP.out.ext hHeld) (elemsO_one HE.out.1) (by omega) ?_
                intro a4 c4 w16 hs4 hle4 hm4 hA4
                (try simp only [Nat.zero_add, List.nil_append] at hs4 hle4)
                (try simp only [Nat.zero_add])
                have hC4 := hA4.chg (lo := wf.heap.size) (hi := wf.heap.size + 1) (by simp [ablk])
                have hat4 : ∀ b ∈ ablk a4, wf.heap.size ≤ b := fun b hb => by rcases hA4.mem hb with h9 | ⟨h9, _⟩ <;> (try simp [ablk] at h9) <;> omega
                have zz4 : wf.heap.size + 1 ≤ w16.heap.size := by have := hC4.size; (try simp at this); omega
                refine hK.out _ _ ?_ (fun hHeld2 => ?_)
                · (try dsimp only); exact Chg.ext hHeld hC4 (by omega)
                clear hK K hHeld
                rename _ => hHeld
                (try simp only [List.getElem_toArray, List.getElem_cons_succ, List.getElem_cons_zero, Act.put, List.setIfInBounds_toArray, List.set_cons_zero, List.set_cons_succ])
                refine wpT_step (i := 9) (by kernel_rfl) (by decide) rfl (fun K hK => ?_)
                rw [if_pos (by rfl)]
                refine opwp_append_sl _ _ _ (by rfl) 40 _ 3 40 Try.underlying27 Hinf.out (by rfl) _ q c4 x1 (by rfl) HX.out.1 hs4 hle4 hm4 _ (l.length - (q + 1)) _ x2 (by exact HV8.out) HX.out.2 (HSF.out.ext hHeld) (elemsO_one HE.out.2) (by omega) ?_
                intro a5 c5 w17 hs5 hle5 hm5 hA5
                have hln : (l.eraseIdx q).length = l.length - 1 := List.length_eraseIdx_of_lt hq
                have hlq : q + (l.length - (q + 1)) = (l.eraseIdx q).length := by omega
                rw [hlq] at hle5
                rw [hlq]
                have hC5 : Chg wf.heap.size w17.heap.size w16 w17 := (hA5.chg (lo := wf.heap.size) (hi := w16.heap.size) (fun b hb => ⟨hat4 b hb, hs4.lt b hb⟩)).wide (Nat.le_refl _) hA5.size
                have hat5 : ∀ b ∈ ablk a5, wf.heap.size ≤ b := fun b hb => by rcases hA5.mem hb with h9 | ⟨h9, _⟩; exact hat4 b h9; omega
                have hEr := List.eraseIdx_eq_take_drop_succ l q
                have hCC : Chg wf.heap.size w17.heap.size wf w17 := ((((Ext.alloc _ _).trans (Ext.drew _)).chg wf.heap.size w17.heap.size).trans (hC4.wide (Nat.le_refl _) (by have := hA5.size; omega))).trans hC5
                have hXX : Ext wf w17 := Chg.ext (Ext.refl _) hCC (Nat.le_refl _)
                have hMM : MO w17 w2.heap.size a5 c5 (l.eraseIdx q) := by
                  refine MO.of_app (n := (l.eraseIdx q).length) (f := f1 ++ f2) hs5 (by rw [hEr]; exact elemsO_join HE.out.1 HE.out.2) (fun b hb => hXX.block b (HFL.out b hb).2) rfl hle5 hm5 (fun b hb => ⟨(HFL.out b hb).1, fun h9 => by have := hat5 b h9; have := (HFL.out b hb).2; omega⟩) (fun b hb => by have := hat5 b hb; omega)
                have HF9 := Lib.hid (HF.out.fresh hXX hMM hat5)
                have HLQ := Lib.hid hln
                clear hs5 hs4 hA5 hA4 hat4 hat5 hlq hEr hln hCC hXX hMM hC4
                refine hK.out _ _ ?_ (fun hHeld2 => ?_)
                · (try dsimp only); exact Chg.ext hHeld hC5 (by omega)
                clear hK K hHeld
                rename _ => hHeld
                (try simp only [List.getElem_toArray, List.getElem_cons_succ, List.getElem_cons_zero, Act.put, List.setIfInBounds_toArray, List.set_cons_zero, List.set_cons_succ])
                refine wpT_last (by kernel_rfl) (by kernel_rfl) rfl (fun K hK => ?_)
                clear hHeld hC5
                go_simp
                refine hK.out _ _ ?_
                clear hK K
                go_wp2
                refine ⟨⟨_, _, _, _, _, _, _, _, _, _, _, _, _, _, _, _, _, _, _, _, _, _, _, _, _, _, _, _, _, _, _, _, _, _, _, _, _, _, _, _, _, _, _, _, _, _, _, _, _, _, _, _, _, _, _, _, _, _, _, _, _, _, _, _, _, _, _, _, _, _, _, _, _, _, _, _, _, _, _, _, _, _, _, _, _, _, _, _, _, _, _, _, _, _, _, _, _, _, _, _, _, _, _, _, _, _, _, _, _, _, _, _, _, _, _, _, _, _, _, _, _, _, _, _, _, _, _, _, _, _, _, _, _, _, _, _, _, _, _, _, _, _, _, _, _, _, _, _, _, _, _, _, _, _, _, _, _, _, _, _, _, _, _, _, _, _, _, _, _, _, _, _, _, _, _, _, ?rel, rfl⟩, ?measure⟩
                case rel => exact ⟨k + 1, l.eraseIdx q, _, _, _, _, by omega, by go_num, rfl, by have := HLQ.out; omega, Lib.hid ⟨fun x hx => HOK.out x (List.mem_of_mem_eraseIdx hx), HF9.out⟩⟩
                case measure => simp [intOf]; omega
          have x1 : decide (x = 1) = false := by rw [decide_eq_false_iff_not]; exact e1
          have x1b : (x == 1) = false := by rw [beq_eq_false_iff_ne]; exact e1
          clear e1
          by_cases e2 : x = 2
          · as_aux_lemma =>
              have x2 : decide (x = 2) = true := by rw [decide_eq_true_iff]; exact e2
              have x2b : (x == 2) = true := by rw [beq_iff_eq]; exact e2
              clear e2
              have Hh := Lib.hid (fl_doubled Hok.out (by omega) HMq.out)
              go_upto_region 37 with fail
              go_cut [17, 18] (fun s15 s16 wx => ∃ (g : Nat) (pa : Option Addr) (pn pc : Nat) (qa : Option Addr) (qn qc : Nat), s15 = .pointer (some ⟨g, 0, none⟩) ∧ s16 = .bool true ∧ w2.heap.size < g ∧ Hid (FL W ca n cc db w2.heap.size wx u v (l, [linkOf a t]) (some ⟨b, off, none⟩) oc l ∧ Bx wx g [.slice pa pn pc, .slice qa qn qc] ∧ NN wx w2.heap.size (some ⟨b, off, none⟩) (.slice pa pn pc) (.slice qa qn qc) (l ++ [m], [linkOf a t])))
              case first =>
                have c0 := HF.out.net.cell 0 _ rfl; have c1 := HF.out.net.cell 1 _ rfl; have nbw := HF.out.size
                skip
                go_wp2_with fail
                refine (implDoubled_c _ (l, [linkOf a t]) q _ HF.out.view).mono ?_
                rw [Hh.out]
                rintro e w8 ⟨u8, v8, rfl, hE8, hN8⟩
                obtain ⟨⟨pa, pc, rfl⟩, qa, qc, rfl⟩ := net_form hN8
                have HF8 := Lib.hid (HF.out.grow hE8)
                skip
                have HN8 := Lib.hid (NN.of hN8 HF.out.mo (Nat.le_refl _) nbw)
                have z8 := hE8.size
                clear hE8 hN8 c0 c1
                (try simp only [List.length_append, List.length_cons, List.length_nil, Nat.zero_add] at HN8 ⊢)
                go_wp2
                go_meet
                exact ⟨w8.heap.size, _, _, _, _, _, _, rfl, rfl, by omega, Lib.hid ⟨HF8.out.grow (by repeat (first | with_reducible exact Ext.refl _ | with_reducible assumption | with_reducible refine Ext.pAlloc ?_ _ | ((with_reducible refine Ext.pSet ?_ ?_ _); rotate_left; (simp <;> omega)) | with_reducible refine Ext.pDrew ?_ | with_reducible refine Ext.pDrewN ?_ _)), (by repeat (first | with_reducible assumption | with_reducible exact Bx.new _ _ _ _ rfl | ((with_reducible refine Bx.new _ _ _ _ ?_); simp; done) | with_reducible refine Bx.pAlloc ?_ _ | with_reducible refine Bx.pDrew ?_ | with_reducible refine Bx.pDrewN ?_ _ | with_reducible apply Bx.set10 | with_reducible apply Bx.set20 | with_reducible apply Bx.set21 | with_reducible apply Bx.set30 | with_reducible apply Bx.set31 | with_reducible apply Bx.set32 | with_reducible apply Bx.set40 | with_reducible apply Bx.set41 | with_reducible apply Bx.set42 | with_reducible apply Bx.set43 | ((with_reducible refine Bx.set_other ?_ ?_ _); rotate_left; (simp <;> omega)))), HN8.out.ext (by repeat (first | with_reducible exact Ext.refl _ | with_reducible assumption | with_reducible refine Ext.pAlloc ?_ _ | ((with_reducible refine Ext.pSet ?_ ?_ _); rotate_left; (simp <;> omega)) | with_reducible refine Ext.pDrew ?_ | with_reducible refine Ext.pDrewN ?_ _))⟩⟩
              case rest =>
                obtain ⟨g, pa, pn, pc, qa, qn, qc, rfl, rfl, hg, HX⟩ := hcut
                obtain ⟨wd, hwd⟩ : ∃ w, w = wc := ⟨_, rfl⟩
                subst hwd
                clear Hh HF
                have HF9 := Lib.hid HX.out.1
                have HB9 := Lib.hid HX.out.2.1
                have HN9 := Lib.hid HX.out.2.2
                clear HX
                have g0 := HB9.out.cell 0 _ rfl; have g1 := HB9.out.cell 1 _ rfl; have fn := HF9.out.net.fr; have ln := HF9.out.net.lt; have c0 := HF9.out.net.cell 0 _ rfl; have c1 := HF9.out.net.cell 1 _ rfl
                have HF := Lib.hid (HF9.out.put HN9.out)
                obtain ⟨r, d0, d1, d2, fx, hfx, hfz⟩ := HF.out.mo.cells HMq.out
                go_upto_region 42 with fail
                clear HF9 HN9 HB9 g0 g1 fn ln c0 c1
                generalize ((World.setCell wd ⟨w2.heap.size, 0, none⟩ (.slice pa pn pc)).setCell ⟨w2.heap.size, 1, none⟩ (.slice qa qn qc)) = wf at *
                have nbw := HF.out.size
                have Hfx := Lib.hid (And.intro hfx hfz)
                clear hfx hfz
                have hi1 : (0 : Int) ≤ q := by omega
                have hi2 : (q : Int) < l.length := by omega
                go_wp2_with (at_builtin; go_loud (refine wpList_MO (nb := w2.heap.size) rfl _ _ _ rfl 40 _ 40 Try.underlying27 Hinf.out rfl (HF.out.mo.ext (Ext.alloc _ _)) rfl _ _ rfl (CellsAt.lit _ _ _) (msgC.O_ext Hfx.out.1 (Ext.alloc _ _)) Hfx.out.2 (by simp; omega) (by omega) ?_))
                intro a5 c5 w9 hM9 hA9 hlt9
                have HF9 := Lib.hid ((HF.out.grow (Ext.alloc _ _)).app hA9 hM9)
                clear hM9 hA9 hlt9 d0 d1 d2
                go_wp2
                refine ⟨⟨_, _, _, _, _, _, _, _, _, _, _, _, _, _, _, _, _, _, _, _, _, _, _, _, _, _, _, _, _, _, _, _, _, _, _, _, _, _, _, _, _, _, _, _, _, _, _, _, _, _, _, _, _, _, _, _, _, _, _, _, _, _, _, _, _, _, _, _, _, _, _, _, _, _, _, _, _, _, _, _, _, _, _, _, _, _, _, _, _, _, _, _, _, _, _, _, _, _, _, _, _, _, _, _, _, _, _, _, _, _, _, _, _, _, _, _, _, _, _, _, _, _, _, _, _, _, _, _, _, _, _, _, _, _, _, _, _, _, _, _, _, _, _, _, _, _, _, _, _, _, _, _, _, _, _, _, _, _, _, _, _, _, _, _, _, _, _, _, _, _, _, _, _, _, _, _, ?rel, rfl⟩, ?measure⟩
                case rel => exact ⟨k + 1, l ++ [m], _, _, _, _, by omega, by go_num, by simp, by simp; omega, Lib.hid ⟨fun x hx => by rcases List.mem_append.1 hx with h9 | h9; exact HOK.out x h9; rw [List.mem_singleton.1 h9]; exact HOK.out m (List.mem_of_getElem? HMq.out), HF9.out⟩⟩
                case measure => simp [intOf]; omega
          have x2 : decide (x = 2) = false := by rw [decide_eq_false_iff_not]; exact e2
          have x2b : (x == 2) = false := by rw [beq_eq_false_iff_ne]; exact e2
          clear e2
          as_aux_lemma =>
            go_upto_region 15 with fail
            go_cut [19] (fun s19 wx => ∃ (g : Nat) (m : MsgD) (mv : Value), s19 = .pointer (some ⟨g, 0, none⟩) ∧ w2.heap.size < g ∧ Hid (msgOk m = true ∧ FL W ca n cc db w2.heap.size wx u v (l, [linkOf a t]) (some ⟨b, off, none⟩) oc l ∧ Bx wx g [.int .i64 m.1, .int .i64 m.2.1, mv] ∧ ∃ fm, msgC.O wx [.int .i64 m.1, .int .i64 m.2.1, mv] m fm ∧ ∀ z ∈ fm, w2.heap.size < z ∧ z ∉ ablk (some ⟨b, off, none⟩)))
            case first =>
              have nbw := HF.out.size
              go_wp2_with fail
              refine (w9Letter_c W ca n cc db _ HF.out.dd).mono ?_
              rintro e w8 ⟨mv, m, rfl, hmo, hD8, hC8, hO8⟩
              have HF8 := Lib.hid (HF.out.dice hC8 hD8)
              obtain ⟨fm, hf1, -, hf2⟩ := hO8
              have Hfm : Hid (msgC.O w8 [.int .i64 m.1, .int .i64 m.2.1, mv] m fm ∧ ∀ z ∈ fm, w2.heap.size < z ∧ z ∉ ablk (some ⟨b, off, none⟩)) := Lib.hid ⟨hf1, fun z hz => ⟨by have := hf2 z hz; omega, fun h9 => by have := hf2 z hz; have := HF.out.mo.lt z h9; omega⟩⟩
              have z8 := hC8.size
              obtain ⟨ma, mc, rfl⟩ : ∃ a c, mv = .slice a m.2.2.length c := by
                obtain ⟨v9, e9, h9⟩ := msg_V.1 (msgC.view hf1)
                cases e9
                exact sl_form h9
              have Hmo := Lib.hid hmo
              clear hD8 hC8 hf1 hf2 hmo
              go_wp2
              go_meet
              exact ⟨w8.heap.size, m, _, rfl, by omega, Lib.hid ⟨Hmo.out, HF8.out.grow (by repeat (first | with_reducible exact Ext.refl _ | with_reducible assumption | with_reducible refine Ext.pAlloc ?_ _ | ((with_reducible refine Ext.pSet ?_ ?_ _); rotate_left; (simp <;> omega)) | with_reducible refine Ext.pDrew ?_ | with_reducible refine Ext.pDrewN ?_ _)), (by repeat (first | with_reducible assumption | with_reducible exact Bx.new _ _ _ _ rfl | ((with_reducible refine Bx.new _ _ _ _ ?_); simp; done) | with_reducible refine Bx.pAlloc ?_ _ | with_reducible refine Bx.pDrew ?_ | with_reducible refine Bx.pDrewN ?_ _ | with_reducible apply Bx.set10 | with_reducible apply Bx.set20 | with_reducible apply Bx.set21 | with_reducible apply Bx.set30 | with_reducible apply Bx.set31 | with_reducible apply Bx.set32 | with_reducible apply Bx.set40 | with_reducible apply Bx.set41 | with_reducible apply Bx.set42 | with_reducible apply Bx.set43 | ((with_reducible refine Bx.set_other ?_ ?_ _); rotate_left; (simp <;> omega)))), fm, msgC.O_ext Hfm.out.1 (by repeat (first | with_reducible exact Ext.refl _ | with_reducible assumption | with_reducible refine Ext.pAlloc ?_ _ | ((with_reducible refine Ext.pSet ?_ ?_ _); rotate_left; (simp <;> omega)) | with_reducible refine Ext.pDrew ?_ | with_reducible refine Ext.pDrewN ?_ _)), Hfm.out.2⟩⟩
            case rest =>
              obtain ⟨h, m, mv, rfl, hh, HY⟩ := hcut
              obtain ⟨we, hwe⟩ : ∃ w, w = wc := ⟨_, rfl⟩
              subst hwe
              clear HF
              have HF := Lib.hid HY.out.2.1
              have HOm := Lib.hid HY.out.1
              have Hh := Lib.hid (fl_sent Hok.out (by omega) HOm.out)
              obtain ⟨ma, mc, rfl⟩ : ∃ a c, mv = .slice a m.2.2.length c := by
                              obtain ⟨fm, h8, -⟩ := HY.out.2.2.2
                              obtain ⟨v9, e9, h9⟩ := msg_V.1 (msgC.view h8)
                              cases e9
                              exact sl_form h9
              go_upto_region 16 with fail
              go_cut [20, 21] (fun s15 s16 wx => ∃ (g : Nat) (pa : Option Addr) (pn pc : Nat) (qa : Option Addr) (qn qc : Nat), s15 = .pointer (some ⟨g, 0, none⟩) ∧ s16 = .bool true ∧ w2.heap.size < g ∧ Hid (FL W ca n cc db w2.heap.size wx u v (l, [linkOf a t]) (some ⟨b, off, none⟩) oc l ∧ Bx wx g [.slice pa pn pc, .slice qa qn qc] ∧ NN wx w2.heap.size (some ⟨b, off, none⟩) (.slice pa pn pc) (.slice qa qn qc) (l ++ [m], [linkOf a t]) ∧ Bx wx h [.int .i64 m.1, .int .i64 m.2.1, .slice ma m.2.2.length mc] ∧ ∃ fm, msgC.O wx [.int .i64 m.1, .int .i64 m.2.1, .slice ma m.2.2.length mc] m fm ∧ ∀ z ∈ fm, w2.heap.size < z ∧ z ∉ ablk (some ⟨b, off, none⟩)))
              case first =>
                have c0 := HF.out.net.cell 0 _ rfl; have c1 := HF.out.net.cell 1 _ rfl; have nbw := HF.out.size
                have m0 := HY.out.2.2.1.cell 0 _ rfl; have m1 := HY.out.2.2.1.cell 1 _ rfl; have m2 := HY.out.2.2.1.cell 2 _ rfl
                go_wp2_with fail
                refine (implSent_c _ [.int .i64 m.1, .int .i64 m.2.1, .slice ma m.2.2.length mc] (l, [linkOf a t]) m _ HF.out.view (by obtain ⟨fm, h8, -⟩ := HY.out.2.2.2; exact msgC.view h8)).mono ?_
                rw [Hh.out]
                rintro e w8 ⟨u8, v8, rfl, hE8, hN8⟩
                obtain ⟨⟨pa, pc, rfl⟩, qa, qc, rfl⟩ := net_form hN8
                have HF8 := Lib.hid (HF.out.grow hE8)
                have HBh := HY.out.2.2.1.ext hE8; have HY8 : Hid (True ∧ ∃ fm, msgC.O w8 [.int .i64 m.1, .int .i64 m.2.1, .slice ma m.2.2.length mc] m fm ∧ ∀ z ∈ fm, w2.heap.size < z ∧ z ∉ ablk (some ⟨b, off, none⟩)) := Lib.hid ⟨trivial, HY.out.2.2.2.imp fun fm h9 => ⟨msgC.O_ext h9.1 hE8, h9.2⟩⟩; clear m0 m1 m2
                have HN8 := Lib.hid (NN.of hN8 HF.out.mo (Nat.le_refl _) nbw)
                have z8 := hE8.size
                clear hE8 hN8 c0 c1
                (try simp only [List.length_append, List.length_cons, List.length_nil, Nat.zero_add] at HN8 ⊢)
                go_wp2
                go_meet
                exact ⟨w8.heap.size, _, _, _, _, _, _, rfl, rfl, by omega, Lib.hid ⟨HF8.out.grow (by repeat (first | with_reducible exact Ext.refl _ | with_reducible assumption | with_reducible refine Ext.pAlloc ?_ _ | ((with_reducible refine Ext.pSet ?_ ?_ _); rotate_left; (simp <;> omega)) | with_reducible refine Ext.pDrew ?_ | with_reducible refine Ext.pDrewN ?_ _)), (by repeat (first | with_reducible assumption | with_reducible exact Bx.new _ _ _ _ rfl | ((with_reducible refine Bx.new _ _ _ _ ?_); simp; done) | with_reducible refine Bx.pAlloc ?_ _ | with_reducible refine Bx.pDrew ?_ | with_reducible refine Bx.pDrewN ?_ _ | with_reducible apply Bx.set10 | with_reducible apply Bx.set20 | with_reducible apply Bx.set21 | with_reducible apply Bx.set30 | with_reducible apply Bx.set31 | with_reducible apply Bx.set32 | with_reducible apply Bx.set40 | with_reducible apply Bx.set41 | with_reducible apply Bx.set42 | with_reducible apply Bx.set43 | ((with_reducible refine Bx.set_other ?_ ?_ _); rotate_left; (simp <;> omega)))), HN8.out.ext (by repeat (first | with_reducible exact Ext.refl _ | with_reducible assumption | with_reducible refine Ext.pAlloc ?_ _ | ((with_reducible refine Ext.pSet ?_ ?_ _); rotate_left; (simp <;> omega)) | with_reducible refine Ext.pDrew ?_ | with_reducible refine Ext.pDrewN ?_ _)), (by repeat (first | with_reducible assumption | with_reducible exact Bx.new _ _ _ _ rfl | ((with_reducible refine Bx.new _ _ _ _ ?_); simp; done) | with_reducible refine Bx.pAlloc ?_ _ | with_reducible refine Bx.pDrew ?_ | with_reducible refine Bx.pDrewN ?_ _ | with_reducible apply Bx.set10 | with_reducible apply Bx.set20 | with_reducible apply Bx.set21 | with_reducible apply Bx.set30 | with_reducible apply Bx.set31 | with_reducible apply Bx.set32 | with_reducible apply Bx.set40 | with_reducible apply Bx.set41 | with_reducible apply Bx.set42 | with_reducible apply Bx.set43 | ((with_reducible refine Bx.set_other ?_ ?_ _); rotate_left; (simp <;> omega)))), HY8.out.2.imp fun fm h9 => ⟨msgC.O_ext h9.1 (by repeat (first | with_reducible exact Ext.refl _ | with_reducible assumption | with_reducible refine Ext.pAlloc ?_ _ | ((with_reducible refine Ext.pSet ?_ ?_ _); rotate_left; (simp <;> omega)) | with_reducible refine Ext.pDrew ?_ | with_reducible refine Ext.pDrewN ?_ _)), h9.2⟩⟩⟩
              case rest =>
                obtain ⟨g, pa, pn, pc, qa, qn, qc, rfl, rfl, hg, HX⟩ := hcut
                obtain ⟨wd, hwd⟩ : ∃ w, w = wc := ⟨_, rfl⟩
                subst hwd
                clear Hh HF
                have HF9 := Lib.hid HX.out.1
                have HB9 := Lib.hid HX.out.2.1
                have HN9 := Lib.hid HX.out.2.2.1
                have g0 := HB9.out.cell 0 _ rfl; have g1 := HB9.out.cell 1 _ rfl; have fn := HF9.out.net.fr; have ln := HF9.out.net.lt; have c0 := HF9.out.net.cell 0 _ rfl; have c1 := HF9.out.net.cell 1 _ rfl
                have HF := Lib.hid (HF9.out.put HN9.out)
                have HBm := HX.out.2.2.2.1.chg (lo := w2.heap.size) (hi := w2.heap.size + 1) ((Chg.setCell wd ⟨w2.heap.size, 0, none⟩ (.slice pa pn pc) (Nat.le_refl _) (Nat.lt_succ_self _)).trans (Chg.setCell _ ⟨w2.heap.size, 1, none⟩ (.slice qa qn qc) (Nat.le_refl _) (Nat.lt_succ_self _))) (by omega)
                have HYm : ∃ fm, msgC.O ((World.setCell wd ⟨w2.heap.size, 0, none⟩ (.slice pa pn pc)).setCell ⟨w2.heap.size, 1, none⟩ (.slice qa qn qc)) [.int .i64 m.1, .int .i64 m.2.1, .slice ma m.2.2.length mc] m fm ∧ ∀ z ∈ fm, w2.heap.size < z ∧ z ∉ ablk (some ⟨b, off, none⟩) := by
                                  obtain ⟨fm, h8, h9⟩ := HX.out.2.2.2.2
                                  exact ⟨fm, msgC.frame h8 (fun z hz => ((Chg.setCell wd ⟨w2.heap.size, 0, none⟩ (.slice pa pn pc) (lo := w2.heap.size) (hi := w2.heap.size + 1) (Nat.le_refl _) (Nat.lt_succ_self _)).trans (Chg.setCell _ ⟨w2.heap.size, 1, none⟩ (.slice qa qn qc) (Nat.le_refl _) (Nat.lt_succ_self _))).block z (msgC.lt h8 z hz) (by have := (h9 z hz).1; omega)), h9⟩
                obtain ⟨fm, hfm⟩ := HYm
                have Hfm := Lib.hid hfm
                clear hfm
                go_upto_region 20 with fail
                clear HF9 HN9 HB9 g0 g1 fn ln c0 c1 HX HY
                generalize ((World.setCell wd ⟨w2.heap.size, 0, none⟩ (.slice pa pn pc)).setCell ⟨w2.heap.size, 1, none⟩ (.slice qa qn qc)) = wf at *
                have nbw := HF.out.size
                have m0 := HBm.cell 0 _ rfl; have m1 := HBm.cell 1 _ rfl; have m2 := HBm.cell 2 _ rfl
                go_wp2_with (at_builtin; go_loud (refine wpList_MO (nb := w2.heap.size) rfl _ _ _ rfl 40 _ 40 Try.underlying27 Hinf.out rfl (HF.out.mo.ext (Ext.alloc _ _)) rfl _ _ rfl (CellsAt.lit _ _ _) (msgC.O_ext Hfm.out.1 (Ext.alloc _ _)) Hfm.out.2 (by simp; omega) (by omega) ?_))
                intro a5 c5 w9 hM9 hA9 hlt9
                have HF9 := Lib.hid ((HF.out.grow (Ext.alloc _ _)).app hA9 hM9)
                clear hM9 hA9 hlt9 m0 m1 m2 HBm
                go_wp2
                refine ⟨⟨_, _, _, _, _, _, _, _, _, _, _, _, _, _, _, _, _, _, _, _, _, _, _, _, _, _, _, _, _, _, _, _, _, _, _, _, _, _, _, _, _, _, _, _, _, _, _, _, _, _, _, _, _, _, _, _, _, _, _, _, _, _, _, _, _, _, _, _, _, _, _, _, _, _, _, _, _, _, _, _, _, _, _, _, _, _, _, _, _, _, _, _, _, _, _, _, _, _, _, _, _, _, _, _, _, _, _, _, _, _, _, _, _, _, _, _, _, _, _, _, _, _, _, _, _, _, _, _, _, _, _, _, _, _, _, _, _, _, _, _, _, _, _, _, _, _, _, _, _, _, _, _, _, _, _, _, _, _, _, _, _, _, _, _, _, _, _, _, _, _, _, _, _, _, _, _, ?rel, rfl⟩, ?measure⟩
                case rel => exact ⟨k + 1, l ++ [m], _, _, _, _, by omega, by go_num, by simp, by simp; omega, Lib.hid ⟨fun x hx => by rcases List.mem_append.1 hx with h9 | h9; exact HOK.out x h9; rw [List.mem_singleton.1 h9]; exact HOm.out, HF9.out⟩⟩
                case measure => simp [intOf]; omega
        · have hqd : decide ((q : Int) < (l.length : Int)) = false := by rw [decide_eq_false_iff_not]; omega
          have hql : q = l.length := by omega
          subst hql
          clear hi1 hq
          go_wp2_with fail
          refine (HF6.out.dd.below 5 (by decide)).mono ?_
          rintro e w7 ⟨x, hx0, hx1, rfl, hD7, hC7⟩
          have HF := Lib.hid (HF6.out.dice hC7 hD7)
          clear HF6 hD7 hC7
          by_cases e0 : x = 0
          · as_aux_lemma =>
              have x0 : decide (x = 0) = true := by rw [decide_eq_true_iff]; exact e0
              have x0b : (x == 0) = true := by rw [beq_iff_eq]; exact e0
              clear e0
              have Hh := Lib.hid (fl_handed0 Hok.out)
              go_upto_region 22 with fail
              go_cut [11, 12, 13] (fun s11 s12 s13 wx => ∃ (g : Nat) (pa : Option Addr) (pn pc : Nat) (qa : Option Addr) (qn qc : Nat) (ra : Option Addr) (rc : Nat), s11 = .pointer (some ⟨g, 0, none⟩) ∧ s12 = .pointer (some ⟨g + 1, 0, none⟩) ∧ s13 = .bool false ∧ w2.heap.size < g ∧ Hid (FL W ca n cc db w2.heap.size wx u v (l, [linkOf a t]) oa oc l ∧ Bx wx g [.slice pa pn pc, .slice qa qn qc] ∧ Bx wx (g + 1) [.int .i64 0, .int .i64 0, .slice ra 0 rc] ∧ msgC.V wx [.int .i64 0, .int .i64 0, .slice ra 0 rc] (0, 0, []) ∧ NN wx w2.heap.size oa (.slice pa pn pc) (.slice qa qn qc) (l, [linkOf a t])))
              case first =>
                have c0 := HF.out.net.cell 0 _ rfl; have c1 := HF.out.net.cell 1 _ rfl; have nbw := HF.out.size
                go_wp2_with fail
                refine (implHanded_c _ (l, [linkOf a t]) l.length _ HF.out.view).mono ?_
                rw [Hh.out]
                rintro e w8 ⟨u8, v8, r8, rfl, hE8, hN8⟩
                obtain ⟨⟨pa, pc, rfl⟩, qa, qc, rfl⟩ := net_form hN8.netO
                obtain ⟨ra, rc, rfl⟩ : ∃ a c, r8 = .slice a ((0, 0, []) : MsgD).2.2.length c := by
                  obtain ⟨v9, e9, h9⟩ := msg_V.1 hN8.msg
                  cases e9
                  exact sl_form h9
                have HF8 := Lib.hid (HF.out.grow hE8)
                have HN8 := Lib.hid (NN.of hN8.netO HF.out.mo (Nat.le_refl _) nbw)
                have HV8 := Lib.hid hN8.msg
                have z8 := hE8.size
                clear hE8 hN8 c0 c1
                (try simp only [List.length_append, List.length_cons, List.length_nil, Nat.zero_add] at HN8 ⊢)
                (try simp only [List.length_nil] at HV8)
                go_wp2
                go_meet
                exact ⟨w8.heap.size, _, _, _, _, _, _, _, _, rfl, rfl, rfl, by omega, Lib.hid ⟨HF8.out.grow (by repeat (first | with_reducible exact Ext.refl _ | with_reducible assumption | with_reducible refine Ext.pAlloc ?_ _ | ((with_reducible refine Ext.pSet ?_ ?_ _); rotate_left; (simp <;> omega)) | with_reducible refine Ext.pDrew ?_ | with_reducible refine Ext.pDrewN ?_ _)), (by repeat (first | with_reducible assumption | with_reducible exact Bx.new _ _ _ _ rfl | ((with_reducible refine Bx.new _ _ _ _ ?_); simp; done) | with_reducible refine Bx.pAlloc ?_ _ | with_reducible refine Bx.pDrew ?_ | with_reducible refine Bx.pDrewN ?_ _ | with_reducible apply Bx.set10 | with_reducible apply Bx.set20 | with_reducible apply Bx.set21 | with_reducible apply Bx.set30 | with_reducible apply Bx.set31 | with_reducible apply Bx.set32 | with_reducible apply Bx.set40 | with_reducible apply Bx.set41 | with_reducible apply Bx.set42 | with_reducible apply Bx.set43 | ((with_reducible refine Bx.set_other ?_ ?_ _); rotate_left; (simp <;> omega)))), (by repeat (first | with_reducible assumption | with_reducible exact Bx.new _ _ _ _ rfl | ((with_reducible refine Bx.new _ _ _ _ ?_); simp; done) | with_reducible refine Bx.pAlloc ?_ _ | with_reducible refine Bx.pDrew ?_ | with_reducible refine Bx.pDrewN ?_ _ | with_reducible apply Bx.set10 | with_reducible apply Bx.set20 | with_reducible apply Bx.set21 | with_reducible apply Bx.set30 | with_reducible apply Bx.set31 | with_reducible apply Bx.set32 | with_reducible apply Bx.set40 | with_reducible apply Bx.set41 | with_reducible apply Bx.set42 | with_reducible apply Bx.set43 | ((with_reducible refine Bx.set_other ?_ ?_ _); rotate_left; (simp <;> omega)))), msgC.vext HV8.out (by repeat (first | with_reducible exact Ext.refl _ | with_reducible assumption | with_reducible refine Ext.pAlloc ?_ _ | ((with_reducible refine Ext.pSet ?_ ?_ _); rotate_left; (simp <;> omega)) | with_reducible refine Ext.pDrew ?_ | with_reducible refine Ext.pDrewN ?_ _)), HN8.out.ext (by repeat (first | with_reducible exact Ext.refl _ | with_reducible assumption | with_reducible refine Ext.pAlloc ?_ _ | ((with_reducible refine Ext.pSet ?_ ?_ _); rotate_left; (simp <;> omega)) | with_reducible refine Ext.pDrew ?_ | with_reducible refine Ext.pDrewN ?_ _))⟩⟩
              case rest =>
                obtain ⟨g, pa, pn, pc, qa, qn, qc, ra, rc, rfl, rfl, rfl, hg, HX⟩ := hcut
                obtain ⟨wd, hwd⟩ : ∃ w, w = wc := ⟨_, rfl⟩
                subst hwd
                clear Hh HF
                have e0 := HX.out.2.2.1.cell 0 _ rfl; have e1 := HX.out.2.2.1.cell 1 _ rfl; have e2 := HX.out.2.2.1.cell 2 _ rfl
                go_wp2
                refine wp_region_held_drew (S := fun ω => ω.cell? ⟨g + 1, 0, none⟩ = some (.int .i64 0) ∧ ω.cell? ⟨g + 1, 1, none⟩ = some (.int .i64 0) ∧ ω.cell? ⟨g + 1, 2, none⟩ = some (.slice ra 0 rc) ∧ Ext wd ω) (by kernel_rfl) ?_ (fun hHeld => ?_)
                · (try dsimp only); exact ⟨e0, e1, e2, Ext.drew _⟩
                refine wpAnyH_take (i := 0) (v := ?_) rfl (by kernel_rfl) (by kernel_rfl) (by kernel_rfl) (fun _ _ _ h => h) (Or.inl ⟨by rfl, ?_⟩) (by assumption) ?_
                rotate_left
                · intro w9 hSw; (try dsimp only at hSw); go_simp; (first | done | with_reducible rfl)
                (try simp only [List.getElem_toArray, List.getElem_cons_succ, List.getElem_cons_zero, Act.put, List.setIfInBounds_toArray, List.set_cons_zero, List.set_cons_succ])
                refine wpAnyH_take (i := 1) (v := ?_) rfl (by kernel_rfl) (by kernel_rfl) (by kernel_rfl) (fun _ _ _ h => h) (Or.inl ⟨by rfl, ?_⟩) (by assumption) ?_
                rotate_left
                · intro w9 hSw; (try dsimp only at hSw); go_simp; (first | done | with_reducible rfl)
                (try simp only [List.getElem_toArray, List.getElem_cons_succ, List.getElem_cons_zero, Act.put, List.setIfInBounds_toArray, List.set_cons_zero, List.set_cons_succ])
                refine wpAnyH_take (i := 2) (v := ?_) rfl (by kernel_rfl) (by kernel_rfl) (by kernel_rfl) (fun _ _ _ h => h) (Or.inl ⟨by rfl, ?_⟩) (by assumption) ?_
                rotate_left
                · intro w9 hSw; (try dsimp only at hSw); go_simp; (first | done | with_reducible rfl)
                (try simp only [List.getElem_toArray, List.getElem_cons_succ, List.getElem_cons_zero, Act.put, List.setIfInBounds_toArray, List.set_cons_zero, List.set_cons_succ])
                refine wpAnyH_take (i := 3) (v := undef) rfl (by kernel_rfl) (by kernel_rfl) (by kernel_rfl) (fun _ _ _ h => h) (Or.inr ⟨by rfl, rfl⟩) (by assumption) ?_
                (try simp only [List.getElem_toArray, List.getElem_cons_succ, List.getElem_cons_zero, Act.put, List.setIfInBounds_toArray, List.set_cons_zero, List.set_cons_succ])
                refine wpAnyH_take (i := 4) (v := undef) rfl (by kernel_rfl) (by kernel_rfl) (by kernel_rfl) (fun _ _ _ h => h) (Or.inr ⟨by rfl, rfl⟩) (by assumption) ?_
                (try simp only [List.getElem_toArray, List.getElem_cons_succ, List.getElem_cons_zero, Act.put, List.setIfInBounds_toArray, List.set_cons_zero, List.set_cons_succ])
                refine wpAnyH_take (i := 5) (v := ?_) rfl (by kernel_rfl) (by kernel_rfl) (by kernel_rfl) (fun _ _ _ h => h) (Or.inl ⟨by rfl, ?_⟩) (by assumption) ?_
                rotate_left
                · intro w9 hSw; (try dsimp only at hSw); go_simp; (first | done | with_reducible rfl)
                (try simp only [List.getElem_toArray, List.getElem_cons_succ, List.getElem_cons_zero, Act.put, List.setIfInBounds_toArray, List.set_cons_zero, List.set_cons_succ])
                refine wpAnyH_take (i := 6) (v := ?_) rfl (by kernel_rfl) (by kernel_rfl) (by kernel_rfl) (fun _ _ _ h => h) (Or.inl ⟨by rfl, ?_⟩) (by assumption) ?_
                rotate_left
                · intro w9 hSw; (try dsimp only at hSw); go_simp; (first | done | with_reducible rfl)
                (try simp only [List.getElem_toArray, List.getElem_cons_succ, List.getElem_cons_zero, Act.put, List.setIfInBounds_toArray, List.set_cons_zero, List.set_cons_succ])
                refine wpAnyH_take (i := 7) (v := ?_) rfl (by kernel_rfl) (by kernel_rfl) (by kernel_rfl) (fun _ _ _ h => h) (Or.inl ⟨by rfl, ?_⟩) (by assumption) ?_
                rotate_left
                · intro w9 hSw; (try dsimp only at hSw); go_simp; (first | done | with_reducible rfl)
                (try simp only [List.getElem_toArray, List.getElem_cons_succ, List.getElem_cons_zero, Act.put, List.setIfInBounds_toArray, List.set_cons_zero, List.set_cons_succ])
                refine wpAnyH_take (i := 8) (v := ?_) rfl (by kernel_rfl) (by kernel_rfl) (by kernel_rfl) (fun _ _ _ h => h) (Or.inl ⟨by rfl, ?_⟩) (by assumption) ?_
                rotate_left
                · intro w9 hSw; (try dsimp only at hSw); go_simp; (first | done | with_reducible rfl)
                (try simp only [List.getElem_toArray, List.getElem_cons_succ, List.getElem_cons_zero, Act.put, List.setIfInBounds_toArray, List.set_cons_zero, List.set_cons_succ])
                refine wpAnyH_take (i := 9) (v := ?_) rfl (by kernel_rfl) (by kernel_rfl) (by kernel_rfl) (fun _ _ _ h => h) (Or.inl ⟨by rfl, ?_⟩) (by assumption) ?_
                rotate_left
                · intro w9 hSw; (try dsimp only at hSw); go_simp; (first | done | with_reducible rfl)
                (try simp only [List.getElem_toArray, List.getElem_cons_succ, List.getElem_cons_zero, Act.put, List.setIfInBounds_toArray, List.set_cons_zero, List.set_cons_succ])
                refine wpAnyH_take (i := 10) (v := undef) rfl (by kernel_rfl) (by kernel_rfl) (by kernel_rfl) (fun _ _ _ h => h) (Or.inr ⟨by rfl, rfl⟩) (by assumption) ?_
                (try simp only [List.getElem_toArray, List.getElem_cons_succ, List.getElem_cons_zero, Act.put, List.setIfInBounds_toArray, List.set_cons_zero, List.set_cons_succ])
                refine wpAnyH_take (i := 11) (v := undef) rfl (by kernel_rfl) (by kernel_rfl) (by kernel_rfl) (fun _ _ _ h => h) (Or.inr ⟨by rfl, rfl⟩) (by assumption) ?_
                (try simp only [List.getElem_toArray, List.getElem_cons_succ, List.getElem_cons_zero, Act.put, List.setIfInBounds_toArray, List.set_cons_zero, List.set_cons_succ])
                refine wpAnyH_take (i := 12) (v := undef) rfl (by kernel_rfl) (by kernel_rfl) (by kernel_rfl) (fun _ _ _ h => h) (Or.inr ⟨by rfl, rfl⟩) (by assumption) ?_
                (try simp only [List.getElem_toArray, List.getElem_cons_succ, List.getElem_cons_zero, Act.put, List.setIfInBounds_toArray, List.set_cons_zero, List.set_cons_succ])
                refine wpAnyH_take (i := 13) (v := undef) rfl (by kernel_rfl) (by kernel_rfl) (by kernel_rfl) (fun _ _ _ h => h) (Or.inr ⟨by rfl, rfl⟩) (by assumption) ?_
                (try simp only [List.getElem_toArray, List.getElem_cons_succ, List.getElem_cons_zero, Act.put, List.setIfInBounds_toArray, List.set_cons_zero, List.set_cons_succ])
                refine wpAnyH_take (i := 14) (v := undef) rfl (by kernel_rfl) (by kernel_rfl) (by kernel_rfl) (fun _ _ _ h => h) (Or.inr ⟨by rfl, rfl⟩) (by assumption) ?_
                (try simp only [List.getElem_toArray, List.getElem_cons_succ, List.getElem_cons_zero, Act.put, List.setIfInBounds_toArray, List.set_cons_zero, List.set_cons_succ])
                refine wpAnyH_take (i := 15) (v := undef) rfl (by kernel_rfl) (by kernel_rfl) (by kernel_rfl) (fun _ _ _ h => h) (Or.inr ⟨by rfl, rfl⟩) (by assumption) ?_
                (try simp only [List.getElem_toArray, List.getElem_cons_succ, List.getElem_cons_zero, Act.put, List.setIfInBounds_toArray, List.set_cons_zero, List.set_cons_succ])
                refine wpAnyH_take (i := 16) (v := undef) rfl (by kernel_rfl) (by kernel_rfl) (by kernel_rfl) (fun _ _ _ h => h) (Or.inr ⟨by rfl, rfl⟩) (by assumption) ?_
                (try simp only [List.getElem_toArray, List.getElem_cons_succ, List.getElem_cons_zero, Act.put, List.setIfInBounds_toArray, List.set_cons_zero, List.set_cons_succ])
                refine wpAnyH_take (i := 17) (v := ?_) rfl (by kernel_rfl) (by kernel_rfl) (by kernel_rfl) (fun _ _ _ h => h) (Or.inl ⟨by rfl, ?_⟩) (by assumption) ?_
                rotate_left
                · intro w9 hSw; (try dsimp only at hSw); go_simp; (first | done | with_reducible rfl)
                (try simp only [List.getElem_toArray, List.getElem_cons_succ, List.getElem_cons_zero, Act.put, List.setIfInBounds_toArray, List.set_cons_zero, List.set_cons_succ])
                refine wpAnyH_take (i := 18) (v := ?_) rfl (by kernel_rfl) (by kernel_rfl) (by kernel_rfl) (fun _ _ _ h => h) (Or.inl ⟨by rfl, ?_⟩) (by assumption) ?_
                rotate_left
                · intro w9 hSw; (try dsimp only at hSw); go_simp; (first | done | with_reducible rfl)
                (try simp only [List.getElem_toArray, List.getElem_cons_succ, List.getElem_cons_zero, Act.put, List.setIfInBounds_toArray, List.set_cons_zero, List.set_cons_succ])
                refine wpAnyH_take (i := 19) (v := ?_) rfl (by kernel_rfl) (by kernel_rfl) (by kernel_rfl) (fun _ _ _ h => h) (Or.inl ⟨by rfl, ?_⟩) (by assumption) ?_
                rotate_left
                · intro w9 hSw; (try dsimp only at hSw); go_simp; (first | done | with_reducible rfl)
                (try simp only [List.getElem_toArray, List.getElem_cons_succ, List.getElem_cons_zero, Act.put, List.setIfInBounds_toArray, List.set_cons_zero, List.set_cons_succ])
                refine wpAnyH_take (i := 20) (v := ?_) rfl (by kernel_rfl) (by kernel_rfl) (by kernel_rfl) (fun _ _ _ h => h) (Or.inl ⟨by rfl, ?_⟩) (by assumption) ?_
                rotate_left
                · intro w9 hSw; (try dsimp only at hSw); go_simp; (first | done | with_reducible rfl)
                (try simp only [List.getElem_toArray, List.getElem_cons_succ, List.getElem_cons_zero, Act.put, List.setIfInBounds_toArray, List.set_cons_zero, List.set_cons_succ])
                refine wpAnyH_take (i := 21) (v := ?_) rfl (by kernel_rfl) (by kernel_rfl) (by kernel_rfl) (fun _ _ _ h => h) (Or.inl ⟨by rfl, ?_⟩) (by assumption) ?_
                rotate_left
                · intro w9 hSw; (try dsimp only at hSw); go_simp; (first | done | with_reducible rfl)
                (try simp only [List.getElem_toArray, List.getElem_cons_succ, List.getElem_cons_zero, Act.put, List.setIfInBounds_toArray, List.set_cons_zero, List.set_cons_succ])
                refine wpAnyH_take (i := 22) (v := ?_) rfl (by kernel_rfl) (by kernel_rfl) (by kernel_rfl) (fun _ _ _ h => h) (Or.inl ⟨by rfl, ?_⟩) (by assumption) ?_
                rotate_left
                · intro w9 hSw; (try dsimp only at hSw); go_simp; (first | done | with_reducible rfl)
                (try simp only [List.getElem_toArray, List.getElem_cons_succ, List.getElem_cons_zero, Act.put, List.setIfInBounds_toArray, List.set_cons_zero, List.set_cons_succ])
                refine wpAnyH_take (i := 23) (v := ?_) rfl (by kernel_rfl) (by kernel_rfl) (by kernel_rfl) (fun _ _ _ h => h) (Or.inl ⟨by rfl, ?_⟩) (by assumption) ?_
                rotate_left
                · intro w9 hSw; (try dsimp only at hSw); go_simp; (first | done | with_reducible rfl)
                (try simp only [List.getElem_toArray, List.getElem_cons_succ, List.getElem_cons_zero, Act.put, List.setIfInBounds_toArray, List.set_cons_zero, List.set_cons_succ])
                refine wpAnyH_take (i := 24) (v := ?_) rfl (by kernel_rfl) (by kernel_rfl) (by kernel_rfl) (fun _ _ _ h => h) (Or.inl ⟨by rfl, ?_⟩) (by assumption) ?_
                rotate_left
                · intro w9 hSw; (try dsimp only at hSw); go_simp; (first | done | with_reducible rfl)
                (try simp only [List.getElem_toArray, List.getElem_cons_succ, List.getElem_cons_zero, Act.put, List.setIfInBounds_toArray, List.set_cons_zero, List.set_cons_succ])
                refine wpAnyH_take (i := 25) (v := ?_) rfl (by kernel_rfl) (by kernel_rfl) (by kernel_rfl) (fun _ _ _ h => h) (Or.inl ⟨by rfl, ?_⟩) (by assumption) ?_
                rotate_left
                · intro w9 hSw; (try dsimp only at hSw); go_simp; (first | done | with_reducible rfl)
                (try simp only [List.getElem_toArray, List.getElem_cons_succ, List.getElem_cons_zero, Act.put, List.setIfInBounds_toArray, List.set_cons_zero, List.set_cons_succ])
                refine wpAnyH_take (i := 26) (v := ?_) rfl (by kernel_rfl) (by kernel_rfl) (by kernel_rfl) (fun _ _ _ h => h) (Or.inl ⟨by rfl, ?_⟩) (by assumption) ?_
                rotate_left
                · intro w9 hSw; (try dsimp only at hSw); go_simp; (first | done | with_reducible rfl)
                (try simp only [List.getElem_toArray, List.getElem_cons_succ, List.getElem_cons_zero, Act.put, List.setIfInBounds_toArray, List.set_cons_zero, List.set_cons_succ])
                refine wpAnyH_take (i := 27) (v := ?_) rfl (by kernel_rfl) (by kernel_rfl) (by kernel_rfl) (fun _ _ _ h => h) (Or.inl ⟨by rfl, ?_⟩) (by assumption) ?_
                rotate_left
                · intro w9 hSw; (try dsimp only at hSw); go_simp; (first | done | with_reducible rfl)
                (try simp only [List.getElem_toArray, List.getElem_cons_succ, List.getElem_cons_zero, Act.put, List.setIfInBounds_toArray, List.set_cons_zero, List.set_cons_succ])
                refine wpAnyH_take (i := 28) (v := ?_) rfl (by kernel_rfl) (by kernel_rfl) (by kernel_rfl) (fun _ _ _ h => h) (Or.inl ⟨by rfl, ?_⟩) (by assumption) ?_
                rotate_left
                · intro w9 hSw; (try dsimp only at hSw); go_simp; (first | done | with_reducible rfl)
                (try simp only [List.getElem_toArray, List.getElem_cons_succ, List.getElem_cons_zero, Act.put, List.setIfInBounds_toArray, List.set_cons_zero, List.set_cons_succ])
                refine wpAnyH_done (by kernel_rfl) ?_ _
                have HF9 := Lib.hid HX.out.1
                have HB9 := Lib.hid HX.out.2.1
                have HN9 := Lib.hid HX.out.2.2.2.2
                clear hHeld e0 e1 e2 HX
                have g0 := HB9.out.cell 0 _ rfl; have g1 := HB9.out.cell 1 _ rfl; have fn := HF9.out.net.fr; have ln := HF9.out.net.lt; have c0 := HF9.out.net.cell 0 _ rfl; have c1 := HF9.out.net.cell 1 _ rfl
                have HF := Lib.hid ((HF9.out.put HN9.out).grow (Ext.drew _))
                go_wp2
                refine ⟨⟨_, _, _, _, _, _, _, _, _, _, _, _, _, _, _, _, _, _, _, _, _, _, _, _, _, _, _, _, _, _, _, _, _, _, _, _, _, _, _, _, _, _, _, _, _, _, _, _, _, _, _, _, _, _, _, _, _, _, _, _, _, _, _, _, _, _, _, _, _, _, _, _, _, _, _, _, _, _, _, _, _, _, _, _, _, _, _, _, _, _, _, _, _, _, _, _, _, _, _, _, _, _, _, _, _, _, _, _, _, _, _, _, _, _, _, _, _, _, _, _, _, _, _, _, _, _, _, _, _, _, _, _, _, _, _, _, _, _, _, _, _, _, _, _, _, _, _, _, _, _, _, _, _, _, _, _, _, _, _, _, _, _, _, _, _, _, _, _, _, _, _, _, _, _, _, _, ?rel, rfl⟩, ?measure⟩
                case rel => exact ⟨k + 1, l, _, _, _, _, by omega, by go_num, rfl, by omega, Lib.hid ⟨HOK.out, HF.out⟩⟩
                case measure => simp [intOf]; omega
          have x0 : decide (x = 0) = false := by rw [decide_eq_false_iff_not]; exact e0
          have x0b : (x == 0) = false := by rw [beq_eq_false_iff_ne]; exact e0
          clear e0
          by_cases e1 : x = 1
          · as_aux_lemma =>
              have x1 : decide (x = 1) = true := by rw [decide_eq_true_iff]; exact e1
              have x1b : (x == 1) = true := by rw [beq_iff_eq]; exact e1
              clear e1
              have Hh := Lib.hid (fl_lost0 Hok.out)
              go_upto_region 30 with fail
              go_cut [15, 16] (fun s15 s16 wx => ∃ (g : Nat) (pa : Option Addr) (pn pc : Nat) (qa : Option Addr) (qn qc : Nat), s15 = .pointer (some ⟨g, 0, none⟩) ∧ s16 = .bool false ∧ w2.heap.size < g ∧ Hid (FL W ca n cc db w2.heap.size wx u v (l, [linkOf a t]) oa oc l ∧ Bx wx g [.slice pa pn pc, .slice qa qn qc] ∧ NN wx w2.heap.size oa (.slice pa pn pc) (.slice qa qn qc) (l, [linkOf a t])))
              case first =>
                have c0 := HF.out.net.cell 0 _ rfl; have c1 := HF.out.net.cell 1 _ rfl; have nbw := HF.out.size
                skip
                go_wp2_with fail
                refine (implLost_c _ (l, [linkOf a t]) l.length _ HF.out.view).mono ?_
                rw [Hh.out]
                rintro e w8 ⟨u8, v8, rfl, hE8, hN8⟩
                obtain ⟨⟨pa, pc, rfl⟩, qa, qc, rfl⟩ := net_form hN8
                have HF8 := Lib.hid (HF.out.grow hE8)
                skip
                have HN8 := Lib.hid (NN.of hN8 HF.out.mo (Nat.le_refl _) nbw)
                have z8 := hE8.size
                clear hE8 hN8 c0 c1
                (try simp only [List.length_append, List.length_cons, List.length_nil, Nat.zero_add] at HN8 ⊢)
                go_wp2
                go_meet
                exact ⟨w8.heap.size, _, _, _, _, _, _, rfl, rfl, by omega, Lib.hid ⟨HF8.out.grow (by repeat (first | with_reducible exact Ext.refl _ | with_reducible assumption | with_reducible refine Ext.pAlloc ?_ _ | ((with_reducible refine Ext.pSet ?_ ?_ _); rotate_left; (simp <;> omega)) | with_reducible refine Ext.pDrew ?_ | with_reducible refine Ext.pDrewN ?_ _)), (by repeat (first | with_reducible assumption | with_reducible exact Bx.new _ _ _ _ rfl | ((with_reducible refine Bx.new _ _ _ _ ?_); simp; done) | with_reducible refine Bx.pAlloc ?_ _ | with_reducible refine Bx.pDrew ?_ | with_reducible refine Bx.pDrewN ?_ _ | with_reducible apply Bx.set10 | with_reducible apply Bx.set20 | with_reducible apply Bx.set21 | with_reducible apply Bx.set30 | with_reducible apply Bx.set31 | with_reducible apply Bx.set32 | with_reducible apply Bx.set40 | with_reducible apply Bx.set41 | with_reducible apply Bx.set42 | with_reducible apply Bx.set43 | ((with_reducible refine Bx.set_other ?_ ?_ _); rotate_left; (simp <;> omega)))), HN8.out.ext (by repeat (first | with_reducible exact Ext.refl _ | with_reducible assumption | with_reducible refine Ext.pAlloc ?_ _ | ((with_reducible refine Ext.pSet ?_ ?_ _); rotate_left; (simp <;> omega)) | with_reducible refine Ext.pDrew ?_ | with_reducible refine Ext.pDrewN ?_ _))⟩⟩
              case rest =>
                obtain ⟨g, pa, pn, pc, qa, qn, qc, rfl, rfl, hg, HX⟩ := hcut
                obtain ⟨wd, hwd⟩ : ∃ w, w = wc := ⟨_, rfl⟩
                subst hwd
                clear Hh HF
                have HF9 := Lib.hid HX.out.1
                have HB9 := Lib.hid HX.out.2.1
                have HN9 := Lib.hid HX.out.2.2
                clear HX
                have g0 := HB9.out.cell 0 _ rfl; have g1 := HB9.out.cell 1 _ rfl; have fn := HF9.out.net.fr; have ln := HF9.out.net.lt; have c0 := HF9.out.net.cell 0 _ rfl; have c1 := HF9.out.net.cell 1 _ rfl
                have HF := Lib.hid (HF9.out.put HN9.out)
                go_wp2
                refine ⟨⟨_, _, _, _, _, _, _, _, _, _, _, _, _, _, _, _, _, _, _, _, _, _, _, _, _, _, _, _, _, _, _, _, _, _, _, _, _, _, _, _, _, _, _, _, _, _, _, _, _, _, _, _, _, _, _, _, _, _, _, _, _, _, _, _, _, _, _, _, _, _, _, _, _, _, _, _, _, _, _, _, _, _, _, _, _, _, _, _, _, _, _, _, _, _, _, _, _, _, _, _, _, _, _, _, _, _, _, _, _, _, _, _, _, _, _, _, _, _, _, _, _, _, _, _, _, _, _, _, _, _, _, _, _, _, _, _, _, _, _, _, _, _, _, _, _, _, _, _, _, _, _, _, _, _, _, _, _, _, _, _, _, _, _, _, _, _, _, _, _, _, _, _, _, _, _, _, ?rel, rfl⟩, ?measure⟩
                case rel => exact ⟨k + 1, l, _, _, _, _, by omega, by go_num, rfl, by omega, Lib.hid ⟨HOK.out, HF.out⟩⟩
                case measure => simp [intOf]; omega
          have x1 : decide (x = 1) = false := by rw [decide_eq_false_iff_not]; exact e1
          have x1b : (x == 1) = false := by rw [beq_eq_false_iff_ne]; exact e1
          clear e1
          by_cases e2 : x = 2
          · as_aux_lemma =>
              have x2 : decide (x = 2) = true := by rw [decide_eq_true_iff]; exact e2
              have x2b : (x == 2) = true := by rw [beq_iff_eq]; exact e2
              clear e2
              have Hh := Lib.hid (fl_doubled0 Hok.out)
              go_upto_region 37 with fail
              go_cut [17, 18] (fun s15 s16 wx => ∃ (g : Nat) (pa : Option Addr) (pn pc : Nat) (qa : Option Addr) (qn qc : Nat), s15 = .pointer (some ⟨g, 0, none⟩) ∧ s16 = .bool false ∧ w2.heap.size < g ∧ Hid (FL W ca n cc db w2.heap.size wx u v (l, [linkOf a t]) oa oc l ∧ Bx wx g [.slice pa pn pc, .slice qa qn qc] ∧ NN wx w2.heap.size oa (.slice pa pn pc) (.slice qa qn qc) (l, [linkOf a t])))
              case first =>
                have c0 := HF.out.net.cell 0 _ rfl; have c1 := HF.out.net.cell 1 _ rfl; have nbw := HF.out.size
                skip
                go_wp2_with fail
                refine (implDoubled_c _ (l, [linkOf a t]) l.length _ HF.out.view).mono ?_
                rw [Hh.out]
                rintro e w8 ⟨u8, v8, rfl, hE8, hN8⟩
                obtain ⟨⟨pa, pc, rfl⟩, qa, qc, rfl⟩ := net_form hN8
                have HF8 := Lib.hid (HF.out.grow hE8)
                skip
                have HN8 := Lib.hid (NN.of hN8 HF.out.mo (Nat.le_refl _) nbw)
                have z8 := hE8.size
                clear hE8 hN8 c0 c1
                (try simp only [List.length_append, List.length_cons, List.length_nil, Nat.zero_add] at HN8 ⊢)
                go_wp2
                go_meet
                exact ⟨w8.heap.size, _, _, _, _, _, _, rfl, rfl, by omega, Lib.hid ⟨HF8.out.grow (by repeat (first | with_reducible exact Ext.refl _ | with_reducible assumption | with_reducible refine Ext.pAlloc ?_ _ | ((with_reducible refine Ext.pSet ?_ ?_ _); rotate_left; (simp <;> omega)) | with_reducible refine Ext.pDrew ?_ | with_reducible refine Ext.pDrewN ?_ _)), (by repeat (first | with_reducible assumption | with_reducible exact Bx.new _ _ _ _ rfl | ((with_reducible refine Bx.new _ _ _ _ ?_); simp; done) | with_reducible refine Bx.pAlloc ?_ _ | with_reducible refine Bx.pDrew ?_ | with_reducible refine Bx.pDrewN ?_ _ | with_reducible apply Bx.set10 | with_reducible apply Bx.set20 | with_reducible apply Bx.set21 | with_reducible apply Bx.set30 | with_reducible apply Bx.set31 | with_reducible apply Bx.set32 | with_reducible apply Bx.set40 | with_reducible apply Bx.set41 | with_reducible apply Bx.set42 | with_reducible apply Bx.set43 | ((with_reducible refine Bx.set_other ?_ ?_ _); rotate_left; (simp <;> omega)))), HN8.out.ext (by repeat (first | with_reducible exact Ext.refl _ | with_reducible assumption | with_reducible refine Ext.pAlloc ?_ _ | ((with_reducible refine Ext.pSet ?_ ?_ _); rotate_left; (simp <;> omega)) | with_reducible refine Ext.pDrew ?_ | with_reducible refine Ext.pDrewN ?_ _))⟩⟩
              case rest =>
                obtain ⟨g, pa, pn, pc, qa, qn, qc, rfl, rfl, hg, HX⟩ := hcut
                obtain ⟨wd, hwd⟩ : ∃ w, w = wc := ⟨_, rfl⟩
                subst hwd
                clear Hh HF
                have HF9 := Lib.hid HX.out.1
                have HB9 := Lib.hid HX.out.2.1
                have HN9 := Lib.hid HX.out.2.2
                clear HX
                have g0 := HB9.out.cell 0 _ rfl; have g1 := HB9.out.cell 1 _ rfl; have fn := HF9.out.net.fr; have ln := HF9.out.net.lt; have c0 := HF9.out.net.cell 0 _ rfl; have c1 := HF9.out.net.cell 1 _ rfl
                have HF := Lib.hid (HF9.out.put HN9.out)
                go_wp2
                refine ⟨⟨_, _, _, _, _, _, _, _, _, _, _, _, _, _, _, _, _, _, _, _, _, _, _, _, _, _, _, _, _, _, _, _, _, _, _, _, _, _, _, _, _, _, _, _, _, _, _, _, _, _, _, _, _, _, _, _, _, _, _, _, _, _, _, _, _, _, _, _, _, _, _, _, _, _, _, _, _, _, _, _, _, _, _, _, _, _, _, _, _, _, _, _, _, _, _, _, _, _, _, _, _, _, _, _, _, _, _, _, _, _, _, _, _, _, _, _, _, _, _, _, _, _, _, _, _, _, _, _, _, _, _, _, _, _, _, _, _, _, _, _, _, _, _, _, _, _, _, _, _, _, _, _, _, _, _, _, _, _, _, _, _, _, _, _, _, _, _, _, _, _, _, _, _, _, _, _, ?rel, rfl⟩, ?measure⟩
                case rel => exact ⟨k + 1, l, _, _, _, _, by omega, by go_num, rfl, by omega, Lib.hid ⟨HOK.out, HF.out⟩⟩
                case measure => simp [intOf]; omega
          have x2 : decide (x = 2) = false := by rw [decide_eq_false_iff_not]; exact e2
          have x2b : (x == 2) = false := by rw [beq_eq_false_iff_ne]; exact e2
          clear e2
          as_aux_lemma =>
            go_upto_region 15 with fail
            go_cut [19] (fun s19 wx => ∃ (g : Nat) (m : MsgD) (mv : Value), s19 = .pointer (some ⟨g, 0, none⟩) ∧ w2.heap.size < g ∧ Hid (msgOk m = true ∧ FL W ca n cc db w2.heap.size wx u v (l, [linkOf a t]) oa oc l ∧ Bx wx g [.int .i64 m.1, .int .i64 m.2.1, mv] ∧ ∃ fm, msgC.O wx [.int .i64 m.1, .int .i64 m.2.1, mv] m fm ∧ ∀ z ∈ fm, w2.heap.size < z ∧ z ∉ ablk oa))
            case first =>
              have nbw := HF.out.size
              go_wp2_with fail
              refine (w9Letter_c W ca n cc db _ HF.out.dd).mono ?_
              rintro e w8 ⟨mv, m, rfl, hmo, hD8, hC8, hO8⟩
              have HF8 := Lib.hid (HF.out.dice hC8 hD8)
              obtain ⟨fm, hf1, -, hf2⟩ := hO8
              have Hfm : Hid (msgC.O w8 [.int .i64 m.1, .int .i64 m.2.1, mv] m fm ∧ ∀ z ∈ fm, w2.heap.size < z ∧ z ∉ ablk oa) := Lib.hid ⟨hf1, fun z hz => ⟨by have := hf2 z hz; omega, fun h9 => by have := hf2 z hz; have := HF.out.mo.lt z h9; omega⟩⟩
              have z8 := hC8.size
              obtain ⟨ma, mc, rfl⟩ : ∃ a c, mv = .slice a m.2.2.length c := by
                obtain ⟨v9, e9, h9⟩ := msg_V.1 (msgC.view hf1)
                cases e9
                exact sl_form h9
              have Hmo := Lib.hid hmo
              clear hD8 hC8 hf1 hf2 hmo
              go_wp2
              go_meet
              exact ⟨w8.heap.size, m, _, rfl, by omega, Lib.hid ⟨Hmo.out, HF8.out.grow (by repeat (first | with_reducible exact Ext.refl _ | with_reducible assumption | with_reducible refine Ext.pAlloc ?_ _ | ((with_reducible refine Ext.pSet ?_ ?_ _); rotate_left; (simp <;> omega)) | with_reducible refine Ext.pDrew ?_ | with_reducible refine Ext.pDrewN ?_ _)), (by repeat (first | with_reducible assumption | with_reducible exact Bx.new _ _ _ _ rfl | ((with_reducible refine Bx.new _ _ _ _ ?_); simp; done) | with_reducible refine Bx.pAlloc ?_ _ | with_reducible refine Bx.pDrew ?_ | with_reducible refine Bx.pDrewN ?_ _ | with_reducible apply Bx.set10 | with_reducible apply Bx.set20 | with_reducible apply Bx.set21 | with_reducible apply Bx.set30 | with_reducible apply Bx.set31 | with_reducible apply Bx.set32 | with_reducible apply Bx.set40 | with_reducible apply Bx.set41 | with_reducible apply Bx.set42 | with_reducible apply Bx.set43 | ((with_reducible refine Bx.set_other ?_ ?_ _); rotate_left; (simp <;> omega)))), fm, msgC.O_ext Hfm.out.1 (by repeat (first | with_reducible exact Ext.refl _ | with_reducible assumption | with_reducible refine Ext.pAlloc ?_ _ | ((with_reducible refine Ext.pSet ?_ ?_ _); rotate_left; (simp <;> omega)) | with_reducible refine Ext.pDrew ?_ | with_reducible refine Ext.pDrewN ?_ _)), Hfm.out.2⟩⟩
            case rest =>
              obtain ⟨h, m, mv, rfl, hh, HY⟩ := hcut
              obtain ⟨we, hwe⟩ : ∃ w, w = wc := ⟨_, rfl⟩
              subst hwe
              clear HF
              have HF := Lib.hid HY.out.2.1
              have HOm := Lib.hid HY.out.1
              have Hh := Lib.hid (fl_sent Hok.out (by omega) HOm.out)
              obtain ⟨ma, mc, rfl⟩ : ∃ a c, mv = .slice a m.2.2.length c := by
                              obtain ⟨fm, h8, -⟩ := HY.out.2.2.2
                              obtain ⟨v9, e9, h9⟩ := msg_V.1 (msgC.view h8)
                              cases e9
                              exact sl_form h9
              go_upto_region 16 with fail
              go_cut [20, 21] (fun s15 s16 wx => ∃ (g : Nat) (pa : Option Addr) (pn pc : Nat) (qa : Option Addr) (qn qc : Nat), s15 = .pointer (some ⟨g, 0, none⟩) ∧ s16 = .bool true ∧ w2.heap.size < g ∧ Hid (FL W ca n cc db w2.heap.size wx u v (l, [linkOf a t]) oa oc l ∧ Bx wx g [.slice pa pn pc, .slice qa qn qc] ∧ NN wx w2.heap.size oa (.slice pa pn pc) (.slice qa qn qc) (l ++ [m], [linkOf a t]) ∧ Bx wx h [.int .i64 m.1, .int .i64 m.2.1, .slice ma m.2.2.length mc] ∧ ∃ fm, msgC.O wx [.int .i64 m.1, .int .i64 m.2.1, .slice ma m.2.2.length mc] m fm ∧ ∀ z ∈ fm, w2.heap.size < z ∧ z ∉ ablk oa))
              case first =>
                have c0 := HF.out.net.cell 0 _ rfl; have c1 := HF.out.net.cell 1 _ rfl; have nbw := HF.out.size
                have m0 := HY.out.2.2.1.cell 0 _ rfl; have m1 := HY.out.2.2.1.cell 1 _ rfl; have m2 := HY.out.2.2.1.cell 2 _ rfl
                go_wp2_with fail
                refine (implSent_c _ [.int .i64 m.1, .int .i64 m.2.1, .slice ma m.2.2.length mc] (l, [linkOf a t]) m _ HF.out.view (by obtain ⟨fm, h8, -⟩ := HY.out.2.2.2; exact msgC.view h8)).mono ?_
                rw [Hh.out]
                rintro e w8 ⟨u8, v8, rfl, hE8, hN8⟩
                obtain ⟨⟨pa, pc, rfl⟩, qa, qc, rfl⟩ := net_form hN8
                have HF8 := Lib.hid (HF.out.grow hE8)
                have HBh := HY.out.2.2.1.ext hE8; have HY8 : Hid (True ∧ ∃ fm, msgC.O w8 [.int .i64 m.1, .int .i64 m.2.1, .slice ma m.2.2.length mc] m fm ∧ ∀ z ∈ fm, w2.heap.size < z ∧ z ∉ ablk oa) := Lib.hid ⟨trivial, HY.out.2.2.2.imp fun fm h9 => ⟨msgC.O_ext h9.1 hE8, h9.2⟩⟩; clear m0 m1 m2
                have HN8 := Lib.hid (NN.of hN8 HF.out.mo (Nat.le_refl _) nbw)
                have z8 := hE8.size
                clear hE8 hN8 c0 c1
                (try simp only [List.length_append, List.length_cons, List.length_nil, Nat.zero_add] at HN8 ⊢)
                go_wp2
                go_meet
                exact ⟨w8.heap.size, _, _, _, _, _, _, rfl, rfl, by omega, Lib.hid ⟨HF8.out.grow (by repeat (first | with_reducible exact Ext.refl _ | with_reducible assumption | with_reducible refine Ext.pAlloc ?_ _ | ((with_reducible refine Ext.pSet ?_ ?_ _); rotate_left; (simp <;> omega)) | with_reducible refine Ext.pDrew ?_ | with_reducible refine Ext.pDrewN ?_ _)), (by repeat (first | with_reducible assumption | with_reducible exact Bx.new _ _ _ _ rfl | ((with_reducible refine Bx.new _ _ _ _ ?_); simp; done) | with_reducible refine Bx.pAlloc ?_ _ | with_reducible refine Bx.pDrew ?_ | with_reducible refine Bx.pDrewN ?_ _ | with_reducible apply Bx.set10 | with_reducible apply Bx.set20 | with_reducible apply Bx.set21 | with_reducible apply Bx.set30 | with_reducible apply Bx.set31 | with_reducible apply Bx.set32 | with_reducible apply Bx.set40 | with_reducible apply Bx.set41 | with_reducible apply Bx.set42 | with_reducible apply Bx.set43 | ((with_reducible refine Bx.set_other ?_ ?_ _); rotate_left; (simp <;> omega)))), HN8.out.ext (by repeat (first | with_reducible exact Ext.refl _ | with_reducible assumption | with_reducible refine Ext.pAlloc ?_ _ | ((with_reducible refine Ext.pSet ?_ ?_ _); rotate_left; (simp <;> omega)) | with_reducible refine Ext.pDrew ?_ | with_reducible refine Ext.pDrewN ?_ _)), (by repeat (first | with_reducible assumption | with_reducible exact Bx.new _ _ _ _ rfl | ((with_reducible refine Bx.new _ _ _ _ ?_); simp; done) | with_reducible refine Bx.pAlloc ?_ _ | with_reducible refine Bx.pDrew ?_ | with_reducible refine Bx.pDrewN ?_ _ | with_reducible apply Bx.set10 | with_reducible apply Bx.set20 | with_reducible apply Bx.set21 | with_reducible apply Bx.set30 | with_reducible apply Bx.set31 | with_reducible apply Bx.set32 | with_reducible apply Bx.set40 | with_reducible apply Bx.set41 | with_reducible apply Bx.set42 | with_reducible apply Bx.set43 | ((with_reducible refine Bx.set_other ?_ ?_ _); rotate_left; (simp <;> omega)))), HY8.out.2.imp fun fm h9 => ⟨msgC.O_ext h9.1 (by repeat (first | with_reducible exact Ext.refl _ | with_reducible assumption | with_reducible refine Ext.pAlloc ?_ _ | ((with_reducible refine Ext.pSet ?_ ?_ _); rotate_left; (simp <;> omega)) | with_reducible refine Ext.pDrew ?_ | with_reducible refine Ext.pDrewN ?_ _)), h9.2⟩⟩⟩
              case rest =>
                obtain ⟨g, pa, pn, pc, qa, qn, qc, rfl, rfl, hg, HX⟩ := hcut
                obtain ⟨wd, hwd⟩ : ∃ w, w = wc := ⟨_, rfl⟩
                subst hwd
                clear Hh HF
                have HF9 := Lib.hid HX.out.1
                have HB9 := Lib.hid HX.out.2.1
                have HN9 := Lib.hid HX.out.2.2.1
                have g0 := HB9.out.cell 0 _ rfl; have g1 := HB9.out.cell 1 _ rfl; have fn := HF9.out.net.fr; have ln := HF9.out.net.lt; have c0 := HF9.out.net.cell 0 _ rfl; have c1 := HF9.out.net.cell 1 _ rfl
                have HF := Lib.hid (HF9.out.put HN9.out)
                have HBm := HX.out.2.2.2.1.chg (lo := w2.heap.size) (hi := w2.heap.size + 1) ((Chg.setCell wd ⟨w2.heap.size, 0, none⟩ (.slice pa pn pc) (Nat.le_refl _) (Nat.lt_succ_self _)).trans (Chg.setCell _ ⟨w2.heap.size, 1, none⟩ (.slice qa qn qc) (Nat.le_refl _) (Nat.lt_succ_self _))) (by omega)
                have HYm : ∃ fm, msgC.O ((World.setCell wd ⟨w2.heap.size, 0, none⟩ (.slice pa pn pc)).setCell ⟨w2.heap.size, 1, none⟩ (.slice qa qn qc)) [.int .i64 m.1, .int .i64 m.2.1, .slice ma m.2.2.length mc] m fm ∧ ∀ z ∈ fm, w2.heap.size < z ∧ z ∉ ablk oa := by
                                  obtain ⟨fm, h8, h9⟩ := HX.out.2.2.2.2
                                  exact ⟨fm, msgC.frame h8 (fun z hz => ((Chg.setCell wd ⟨w2.heap.size, 0, none⟩ (.slice pa pn pc) (lo := w2.heap.size) (hi := w2.heap.size + 1) (Nat.le_refl _) (Nat.lt_succ_self _)).trans (Chg.setCell _ ⟨w2.heap.size, 1, none⟩ (.slice qa qn qc) (Nat.le_refl _) (Nat.lt_succ_self _))).block z (msgC.lt h8 z hz) (by have := (h9 z hz).1; omega)), h9⟩
                obtain ⟨fm, hfm⟩ := HYm
                have Hfm := Lib.hid hfm
                clear hfm
                go_upto_region 20 with fail
                clear HF9 HN9 HB9 g0 g1 fn ln c0 c1 HX HY
                generalize ((World.setCell wd ⟨w2.heap.size, 0, none⟩ (.slice pa pn pc)).setCell ⟨w2.heap.size, 1, none⟩ (.slice qa qn qc)) = wf at *
                have nbw := HF.out.size
                have m0 := HBm.cell 0 _ rfl; have m1 := HBm.cell 1 _ rfl; have m2 := HBm.cell 2 _ rfl
                go_wp2_with (at_builtin; go_loud (refine wpList_MO (nb := w2.heap.size) rfl _ _ _ rfl 40 _ 40 Try.underlying27 Hinf.out rfl (HF.out.mo.ext (Ext.alloc _ _)) rfl _ _ rfl (CellsAt.lit _ _ _) (msgC.O_ext Hfm.out.1 (Ext.alloc _ _)) Hfm.out.2 (by simp; omega) (by omega) ?_))
                intro a5 c5 w9 hM9 hA9 hlt9
                have HF9 := Lib.hid ((HF.out.grow (Ext.alloc _ _)).app hA9 hM9)
                clear hM9 hA9 hlt9 m0 m1 m2 HBm
                go_wp2
                refine ⟨⟨_, _, _, _, _, _, _, _, _, _, _, _, _, _, _, _, _, _, _, _, _, _, _, _, _, _, _, _, _, _, _, _, _, _, _, _, _, _, _, _, _, _, _, _, _, _, _, _, _, _, _, _, _, _, _, _, _, _, _, _, _, _, _, _, _, _, _, _, _, _, _, _, _, _, _, _, _, _, _, _, _, _, _, _, _, _, _, _, _, _, _, _, _, _, _, _, _, _, _, _, _, _, _, _, _, _, _, _, _, _, _, _, _, _, _, _, _, _, _, _, _, _, _, _, _, _, _, _, _, _, _, _, _, _, _, _, _, _, _, _, _, _, _, _, _, _, _, _, _, _, _, _, _, _, _, _, _, _, _, _, _, _, _, _, _, _, _, _, _, _, _, _, _, _, _, _, ?rel, rfl⟩, ?measure⟩
                case rel => exact ⟨k + 1, l ++ [m], _, _, _, _, by omega, by go_num, by simp, by simp; omega, Lib.hid ⟨fun x hx => by rcases List.mem_append.1 hx with h9 | h9; exact HOK.out x h9; rw [List.mem_singleton.1 h9]; exact HOm.out, HF9.out⟩⟩
                case measure => simp [intOf]; omega
      · have hkd : decide ((k : Int) < 18) = false := by rw [decide_eq_false_iff_not]; omega
        have Hok := Lib.hid (fl_ok (fl_links HAP.out.1) HI.out.1 (by omega))
        have HF := Lib.hid HI.out.2
        have c0 := HF.out.net.cell 0 _ rfl; have c1 := HF.out.net.cell 1 _ rfl
        go_wp2_with fail
        refine (w9SameLetters_c _ _ l l _ (by obtain ⟨u9, v9, e9, h8, h9⟩ := net_V.1 HF.out.view; cases e9; exact h8) HF.out.mo.view).mono ?_
        rw [decide_eq_true rfl]
        rintro e w6 ⟨rfl, hE6⟩
        have HF6 := Lib.hid (HF.out.grow hE6)
        clear hE6 HF c0 c1
        have c0 := HF6.out.net.cell 0 _ rfl; have c1 := HF6.out.net.cell 1 _ rfl
        go_wp2_with fail
        refine (implNetOk_c _ _ _ HF6.out.view).mono ?_
        rw [Hok.out]
        rintro e w7 ⟨rfl, hE7⟩
        have HX7 := Lib.hid (HF6.out.dd.ext.trans hE7)
        clear hE7 HF6 c0 c1
        go_wp2
        go_ret
        exact ⟨rfl, HX7.out⟩

set_option maxRecDepth 100000 in
theorem flight_holds : Rows.FnFlightSaid :=
  OpenClaim.holds_of_wide 4 Try.f4 rfl rfl rfl rfl rfl rfl rfl ⟨rfl, rfl, rfl, rfl, rfl⟩ rfl rfl rfl rfl rfl (by kernel_rfl) Try.func4 (by kernel_rfl)
    (of_decide_eq_true (by kernel_rfl)) (by unfold Func.isWrapper; rw [if_neg (of_decide_eq_false (by kernel_rfl))]; exact ⟨rfl, rfl⟩)
    (fun os started H enc _ => law_lifted (C := Try.checked) (f := 4) (fn := Try.f4) (s := Rows.fnFlightSpec) (tb := 4) Try.own started (by kernel_rfl) Try.func4 Try.laidOut (of_decide_eq_true (by kernel_rfl)) rfl Try.underlying4 rfl
      (fun ds h => by match ds, h with | [_], _ => exact ⟨rfl, rfl, rfl⟩)
      (ChangeSpec.witness6 (enc := enc) (C := Try.checked) false ⟨#[], #[.slice none 0 0], []⟩ 8 (by kernel_rfl) (by kernel_rfl) (by kernel_rfl) (by kernel_rfl))
      flight_c)

end Go.Proofs.Ytjjeagblgjmcpaa
