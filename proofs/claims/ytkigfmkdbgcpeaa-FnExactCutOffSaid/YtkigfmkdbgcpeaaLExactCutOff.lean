/- The law FnExactCutOff is true for every input: it returns true, and what it was given reads as before. -/
import Derived.Test.YtkigfmkdbgcpeaaTied
import Derived.Test.YtkigfmkdbgcpeaaNt11
set_option linter.unusedVariables false
set_option linter.unusedSimpArgs false
namespace Go.Proofs.Ytkigfmkdbgcpeaa
open Go.RowKit Go.Sl

set_option maxRecDepth 100000 in
theorem tiedMsg : Tied Try.prog msgC 45 := Tied.struct3 Try.underlying45 ⟨rfl, rfl, rfl⟩ rfl rfl rfl rfl (Tied.int Try.underlying2) (Tied.int Try.underlying2) tiedRow
theorem msg_take {lo hi : Nat} {w : World} {v : Value} {m : MsgD} {f t : Int} (h : msgC.own lo hi w [.int .i64 f, .int .i64 t, v] m) : ∃ a cap, v = .slice a m.2.2.length cap := by
  obtain ⟨v', e, h'⟩ := msg_own.1 h
  cases e
  obtain ⟨a, cap, h1, _⟩ := row_take h'
  exact ⟨a, cap, h1⟩
theorem szMsg_small (m : MsgD) (q : Int) (h0 : -1 ≤ q) (h1 : q ≤ 1048576) : (-1 ≤ szI m.2.2.length q ∧ szI m.2.2.length q ≤ 1048576) ∧ (¬ szI m.2.2.length q < 0 → m.2.2.length ≤ 1048576) := by
  unfold szI
  split <;> constructor <;> omega

set_option maxRecDepth 100000 in
theorem tiedMsgs : Tied Try.prog msgsC 22 := Tied.slice Try.underlying22 rfl (by decide) tiedMsg
set_option maxRecDepth 100000 in
theorem tiedLink : Tied Try.prog linkC 99 := Tied.struct2 Try.underlying99 ⟨rfl, rfl⟩ rfl rfl rfl (Tied.int Try.underlying2) (Tied.int Try.underlying2)
set_option maxRecDepth 100000 in
theorem tiedLinks : Tied Try.prog linksC 23 := Tied.slice Try.underlying23 rfl (by decide) tiedLink
set_option maxRecDepth 100000 in
theorem tiedNet : Tied Try.prog netC 25 := Tied.struct2 Try.underlying25 ⟨rfl, rfl⟩ rfl rfl rfl tiedMsgs tiedLinks
theorem mcnt_msz (l : List MsgD) : cntL mcnt l = 2 * l.length + cntL msz l := by
  induction l with
  | nil => rfl
  | cons x l ih => simp only [cntL, ih, List.length_cons, mcnt, msz]; omega
theorem szNet_small (m : NetD) (q : Int) (h0 : -1 ≤ q) (h1 : q ≤ 1048576) : (-1 ≤ szI (nsz m) q ∧ szI (nsz m) q ≤ 1048576) ∧ (¬ szI (nsz m) q < 0 → nsmall m ∧ ncnt m ≤ 2097152) := by
  obtain ⟨h2, h3⟩ := nsz_small m q h0 h1
  refine ⟨h2, fun h => ⟨h3 h, ?_⟩⟩
  unfold szI at h
  unfold ncnt
  rw [mcnt_msz, cntL_lcnt]
  unfold nsz at h
  split at h <;> omega
theorem net_take {lo hi : Nat} {w : World} {u v : Value} {m : NetD} (h : netC.own lo hi w [u, v] m) : (∃ a c, u = .slice a m.1.length c) ∧ ∃ a c, v = .slice a m.2.length c := by
  obtain ⟨u', v', e, hu, hv⟩ := net_V.1 h.view
  cases e
  exact ⟨sl_form hu, sl_form hv⟩

theorem cntL_le {α : Type} (cnt : α → Nat) (m : Nat) (l : List α) (h : ∀ x ∈ l, cnt x ≤ m) : cntL cnt l ≤ l.length * m := by
  induction l with
  | nil => simp [cntL]
  | cons x l ih =>
    have h1 := h x (by simp)
    have h2 := ih (fun y hy => h y (by simp [hy]))
    simp only [cntL, List.length_cons, Nat.add_mul]; omega
theorem net_cnt (d : NetD) (h1 : ∀ x ∈ d.1, x.2.2.length ≤ 48) (h3 : d.1.length ≤ 61) (h4 : d.2.length ≤ 16) : ncnt d ≤ 4096 := by
  have a := cntL_le mcnt 50 d.1 (fun x hx => by have := h1 x hx; unfold mcnt; omega)
  have b := cntL_lcnt d.2
  unfold ncnt
  omega
theorem netOk_cnt {d : NetD} (h : netOk d = true) : ncnt d ≤ 4096 := net_cnt d (netOk_rows h) (by have := (netOk_lens h).1; omega) (by have := (netOk_lens h).2; omega)
theorem cutOff_cnt (d : NetD) (a b : Int) : ncnt (cutOff d a b).1 ≤ 4096 := by
  unfold cutOff
  split
  · rename_i h
    obtain ⟨h1, h2⟩ := netOk_lens h
    split
    · exact net_cnt _ (fun x hx => netOk_rows h x hx) (by dsimp only; omega) (by dsimp only; rw [List.length_append, List.length_cons, List.length_take, List.length_drop]; omega)
    · exact netOk_cnt h
  · decide

set_option maxHeartbeats 4000000 in
set_option maxRecDepth 100000 in
theorem exactcutoff_c (W : World) (args : Array Value) (hs : args.size = 3) (h : ∀ (j : Nat) t v, Try.f12.params[j]? = some t → args[j]? = some v → ArgOk Try.prog W t v) :
    Calls Try.prog 12 args W fun e W' => e = .returned (.bool true) ∧ Ext W W' := by
  match args, hs with
  | ⟨[a0, a1, a2]⟩, _ =>
    obtain ⟨cs_N, d_N, rfl, H_N'⟩ := (h 0 _ a0 rfl rfl).struct Try.underlying25 tiedNet
    have H_N : Hid (netC.V W cs_N d_N) := H_N'
    obtain ⟨u_N, v_N, rfl, _⟩ := net_V.1 H_N'; clear H_N'
    obtain ⟨d_A, rfl⟩ := (h 1 _ a1 rfl rfl).int Try.underlying2
    obtain ⟨d_B, rfl⟩ := (h 2 _ a2 rfl rfl).int Try.underlying2
    clear h
    have bnd := cutOff_cnt d_N d_A d_B
    have sz_N := szNet_small d_N 1048576 (by omega) (by omega)
    by_cases neg_N : szI (nsz d_N) 1048576 < 0
    · go_enter Try.func12, Try.ntmps12
      have X : Ext W W := Ext.refl W
      go_wp2_with fail
      refine (szNet_c _ d_N _ _ (netC.vext H_N.out (Ext.pAlloc (X) _)) (by omega) (by omega)).mono ?_
      rintro e w1 ⟨rfl, Ew1⟩
      have Ew1c : Ext W w1 := Ext.trans (Ext.pAlloc (Ext.refl _) _) Ew1
      have B_AN_0 : w1.cell? ⟨(W.heap.size), 0, none⟩ = some (u_N) := cell_ext (by simp [go_sem]) Ew1
      have B_AN_1 : w1.cell? ⟨(W.heap.size), 1, none⟩ = some (v_N) := cell_ext (by simp [go_sem]) Ew1
      have Sw1 : W.heap.size + 1 ≤ w1.heap.size := by have := Ew1.size; (try simp at this); omega
      replace X := X.trans Ew1c
      clear Ew1 Ew1c
      go_wp2
      go_ret
      exact ⟨rfl, by first | exact X | (repeat (first | with_reducible exact Ext.refl _ | with_reducible assumption | with_reducible refine Ext.pAlloc ?_ _ | ((with_reducible refine Ext.pSet ?_ ?_ _); rotate_left; (simp <;> omega)) | with_reducible refine Ext.pDrew ?_ | with_reducible refine Ext.pDrewN ?_ _ | with_reducible refine Ext.trans ?_ (by with_reducible assumption)))⟩
    replace sz_N := sz_N.2 neg_N
    have szc_N := sz_N.2
    replace sz_N := sz_N.1
    go_enter Try.func12, Try.ntmps12
    have X : Ext W W := Ext.refl W
    go_wp2_with fail
    refine (szNet_c _ d_N _ _ (netC.vext H_N.out (Ext.pAlloc (X) _)) (by omega) (by omega)).mono ?_
    rintro e w1 ⟨rfl, Ew1⟩
    have Ew1c : Ext W w1 := Ext.trans (Ext.pAlloc (Ext.refl _) _) Ew1
    have B_AN_0 : w1.cell? ⟨(W.heap.size), 0, none⟩ = some (u_N) := cell_ext (by simp [go_sem]) Ew1
    have B_AN_1 : w1.cell? ⟨(W.heap.size), 1, none⟩ = some (v_N) := cell_ext (by simp [go_sem]) Ew1
    have Sw1 : W.heap.size + 1 ≤ w1.heap.size := by have := Ew1.size; (try simp at this); omega
    replace X := X.trans Ew1c
    clear Ew1 Ew1c
    go_wp2_with fail
    refine (toNet_c _ d_N _ (netC.vext H_N.out (X)) (by first | omega | exact sz_N)).mono ?_
    rintro e w2 ⟨u_tN, v_tN, rfl, Ew2, O_tN⟩
    replace O_tN := O_tN.wide (lo' := w1.heap.size) (hi' := w2.heap.size) (by simp) (Nat.le_refl _)
    have Ew2c : Ext w1 w2 := Ew2
    replace B_AN_0 := cell_ext B_AN_0 Ew2c
    replace B_AN_1 := cell_ext B_AN_1 Ew2c
    have Sw2 : w1.heap.size ≤ w2.heap.size := by have := Ew2.size; (try simp at this); omega
    replace X := X.trans Ew2c
    clear Ew2 Ew2c
    obtain ⟨⟨b_tN, c_tN, rfl⟩, bb_tN, cc_tN, rfl⟩ := net_take O_tN
    go_wp2_with fail
    refine (specCutOff_c _ _ _ _ _ O_tN.view).mono ?_
    rintro e w3 ⟨u_w0r0, v_w0r0, rfl, Ew3, O_w0r0⟩
    replace O_w0r0 := O_w0r0.wide (lo' := w2.heap.size) (hi' := w3.heap.size) (by simp) (Nat.le_refl _)
    have Ew3c : Ext w2 w3 := Ew3
    replace O_tN := O_tN.ext Ew3c
    replace B_AN_0 := cell_ext B_AN_0 Ew3c
    replace B_AN_1 := cell_ext B_AN_1 Ew3c
    have Sw3 : w2.heap.size ≤ w3.heap.size := by have := Ew3.size; (try simp at this); omega
    replace X := X.trans Ew3c
    clear Ew3 Ew3c
    obtain ⟨⟨b_w0r0, c_w0r0, rfl⟩, bb_w0r0, cc_w0r0, rfl⟩ := net_take O_w0r0
    clear O_tN
    have N_AN_0 : (W.heap.size) < w3.heap.size := by omega
    go_wp2_with fail
    refine (toNet_c _ d_N _ (netC.vext H_N.out (Ext.pAlloc (X) _)) (by first | omega | exact sz_N)).mono ?_
    rintro e w4 ⟨u_xN, v_xN, rfl, Ew4, O_xN⟩
    replace O_xN := O_xN.wide (lo' := w3.heap.size + 1) (hi' := w4.heap.size) (by simp) (Nat.le_refl _)
    have Ew4c : Ext w3 w4 := Ext.trans (Ext.pAlloc (Ext.refl _) _) Ew4
    replace O_w0r0 := O_w0r0.ext Ew4c
    replace B_AN_0 := cell_ext B_AN_0 Ew4c
    replace B_AN_1 := cell_ext B_AN_1 Ew4c
    have B_w0r0_0 : w4.cell? ⟨(w3.heap.size), 0, none⟩ = some (.slice b_w0r0 ((cutOff d_N d_A d_B).1).1.length c_w0r0) := cell_ext (by simp [go_sem]) Ew4
    have B_w0r0_1 : w4.cell? ⟨(w3.heap.size), 1, none⟩ = some (.slice bb_w0r0 ((cutOff d_N d_A d_B).1).2.length cc_w0r0) := cell_ext (by simp [go_sem]) Ew4
    have Sw4 : w3.heap.size + 1 ≤ w4.heap.size := by have := Ew4.size; (try simp at this); omega
    replace X := X.trans Ew4c
    clear Ew4 Ew4c
    obtain ⟨⟨b_xN, c_xN, rfl⟩, bb_xN, cc_xN, rfl⟩ := net_take O_xN
    have N_AN_0 : (W.heap.size) < w4.heap.size := by omega
    have N_w0r0_0 : (w3.heap.size) < w4.heap.size := by omega
    go_wp2_with fail
    refine (implCutOff_c _ _ _ _ _ (O_xN.ext (Ext.pAlloc (Ext.refl _) _)).view).mono ?_
    rintro e w5 ⟨u_g0r0, v_g0r0, rfl, Ew5, O_g0r0⟩
    replace O_g0r0 := O_g0r0.wide (lo' := w4.heap.size + 1) (hi' := w5.heap.size) (by simp) (Nat.le_refl _)
    have Ew5c : Ext w4 w5 := Ext.trans (Ext.pAlloc (Ext.refl _) _) Ew5
    replace O_w0r0 := O_w0r0.ext Ew5c
    replace O_xN := O_xN.ext Ew5c
    replace B_AN_0 := cell_ext B_AN_0 Ew5c
    replace B_AN_1 := cell_ext B_AN_1 Ew5c
    replace B_w0r0_0 := cell_ext B_w0r0_0 Ew5c
    replace B_w0r0_1 := cell_ext B_w0r0_1 Ew5c
    have B_xN_0 : w5.cell? ⟨(w4.heap.size), 0, none⟩ = some (.slice b_xN (d_N).1.length c_xN) := cell_ext (by simp [go_sem]) Ew5
    have B_xN_1 : w5.cell? ⟨(w4.heap.size), 1, none⟩ = some (.slice bb_xN (d_N).2.length cc_xN) := cell_ext (by simp [go_sem]) Ew5
    have Sw5 : w4.heap.size + 1 ≤ w5.heap.size := by have := Ew5.size; (try simp at this); omega
    replace X := X.trans Ew5c
    clear Ew5 Ew5c
    obtain ⟨⟨b_g0r0, c_g0r0, rfl⟩, bb_g0r0, cc_g0r0, rfl⟩ := net_take O_g0r0
    have N_AN_0 : (W.heap.size) < w5.heap.size := by omega
    have N_w0r0_0 : (w3.heap.size) < w5.heap.size := by omega
    have N_xN_0 : (w4.heap.size) < w5.heap.size := by omega
    go_wp2_with fail
    refine (eqNet_c _ _ _ _ _ (O_g0r0.ext (Ext.pAlloc (Ext.refl _) _)).view (O_w0r0.ext (Ext.pAlloc (Ext.refl _) _)).view).mono ?_
    rintro e w6 ⟨rfl, Ew6⟩
    have Ew6c : Ext w5 w6 := Ext.trans (Ext.pAlloc (Ext.refl _) _) Ew6
    replace O_w0r0 := O_w0r0.ext Ew6c
    replace O_xN := O_xN.ext Ew6c
    replace O_g0r0 := O_g0r0.ext Ew6c
    replace B_AN_0 := cell_ext B_AN_0 Ew6c
    replace B_AN_1 := cell_ext B_AN_1 Ew6c
    replace B_w0r0_0 := cell_ext B_w0r0_0 Ew6c
    replace B_w0r0_1 := cell_ext B_w0r0_1 Ew6c
    replace B_xN_0 := cell_ext B_xN_0 Ew6c
    replace B_xN_1 := cell_ext B_xN_1 Ew6c
    have B_g0r0_0 : w6.cell? ⟨(w5.heap.size), 0, none⟩ = some (.slice b_g0r0 ((cutOff d_N d_A d_B).1).1.length c_g0r0) := cell_ext (by simp [go_sem]) Ew6
    have B_g0r0_1 : w6.cell? ⟨(w5.heap.size), 1, none⟩ = some (.slice bb_g0r0 ((cutOff d_N d_A d_B).1).2.length cc_g0r0) := cell_ext (by simp [go_sem]) Ew6
    have Sw6 : w5.heap.size + 1 ≤ w6.heap.size := by have := Ew6.size; (try simp at this); omega
    replace X := X.trans Ew6c
    clear Ew6 Ew6c
    go_wp2
    go_region_held3 (fun ω => ω.cell? ⟨(w4.heap.size), 0, none⟩ = some (.slice b_xN (d_N).1.length c_xN) ∧ ω.cell? ⟨(w4.heap.size), 1, none⟩ = some (.slice bb_xN (d_N).2.length cc_xN) ∧ ω.cell? ⟨(W.heap.size), 0, none⟩ = some (u_N) ∧ ω.cell? ⟨(W.heap.size), 1, none⟩ = some (v_N) ∧ Ext w6 ω)
      ((refine ⟨cell_ext B_xN_0 ?_, cell_ext B_xN_1 ?_, cell_ext B_AN_0 ?_, cell_ext B_AN_1 ?_, ?_⟩ <;> (repeat (first | with_reducible exact Ext.refl _ | with_reducible assumption | with_reducible refine Ext.pAlloc ?_ _ | ((with_reducible refine Ext.pSet ?_ ?_ _); rotate_left; (simp <;> omega)) | with_reducible refine Ext.pDrew ?_ | with_reducible refine Ext.pDrewN ?_ _ | with_reducible refine Ext.trans ?_ (by with_reducible assumption)))))
      ((first
        | (go_at_call 17; refine (toNet_c _ d_N _ (netC.vext H_N.out (by repeat (first | with_reducible exact Ext.refl _ | with_reducible assumption | with_reducible refine Ext.pAlloc ?_ _ | ((with_reducible refine Ext.pSet ?_ ?_ _); rotate_left; (simp <;> omega)) | with_reducible refine Ext.pDrew ?_ | with_reducible refine Ext.pDrewN ?_ _ | with_reducible refine Ext.trans ?_ (by with_reducible assumption)))) (by first | omega | exact sz_N)).mono ?_; rintro e w7 ⟨u_yN, v_yN, rfl, Ew7, O_yN⟩; obtain ⟨⟨b_yN, c_yN, rfl⟩, bb_yN, cc_yN, rfl⟩ := net_take O_yN)
        | (go_at_call 19; refine (eqNet_c _ _ d_N d_N _ (netC.vext O_xN.view (by repeat (first | with_reducible exact Ext.refl _ | with_reducible assumption | with_reducible refine Ext.pAlloc ?_ _ | ((with_reducible refine Ext.pSet ?_ ?_ _); rotate_left; (simp <;> omega)) | with_reducible refine Ext.pDrew ?_ | with_reducible refine Ext.pDrewN ?_ _ | with_reducible refine Ext.trans ?_ (by with_reducible assumption)))) O_yN.view).mono ?_; rintro e w8 ⟨rfl, Ew8⟩)))
    have Ew8r : Ext w6 w8 := (Ext.drew _).trans (Ew7.trans Ew8)
    clear Ew7 Ew8 O_yN
    have Ew8rc : Ext w6 w8 := Ew8r
    replace O_w0r0 := O_w0r0.ext Ew8rc
    replace O_xN := O_xN.ext Ew8rc
    replace O_g0r0 := O_g0r0.ext Ew8rc
    replace B_AN_0 := cell_ext B_AN_0 Ew8rc
    replace B_AN_1 := cell_ext B_AN_1 Ew8rc
    replace B_w0r0_0 := cell_ext B_w0r0_0 Ew8rc
    replace B_w0r0_1 := cell_ext B_w0r0_1 Ew8rc
    replace B_xN_0 := cell_ext B_xN_0 Ew8rc
    replace B_xN_1 := cell_ext B_xN_1 Ew8rc
    replace B_g0r0_0 := cell_ext B_g0r0_0 Ew8rc
    replace B_g0r0_1 := cell_ext B_g0r0_1 Ew8rc
    have Sw8 : w6.heap.size ≤ w8.heap.size := by have := Ew8r.size; (try simp at this); omega
    replace X := X.trans Ew8rc
    clear Ew8r Ew8rc
    go_wp2_with fail
    refine (markNet_c _ _ _ _ _ _ O_xN (by omega) (by omega)).mono ?_
    rintro e w9 ⟨rfl, Cw9, O_xN'⟩
    replace O_w0r0 := O_w0r0.chg Cw9 (by omega)
    replace O_g0r0 := O_g0r0.chg Cw9 (by omega)
    clear O_xN
    have O_xN := O_xN'
    clear O_xN'
    replace B_AN_0 := cell_chg B_AN_0 Cw9 (by omega)
    replace B_AN_1 := cell_chg B_AN_1 Cw9 (by omega)
    replace B_w0r0_0 := cell_chg B_w0r0_0 Cw9 (by omega)
    replace B_w0r0_1 := cell_chg B_w0r0_1 Cw9 (by omega)
    replace B_xN_0 := cell_chg B_xN_0 Cw9 (by omega)
    replace B_xN_1 := cell_chg B_xN_1 Cw9 (by omega)
    replace B_g0r0_0 := cell_chg B_g0r0_0 Cw9 (by omega)
    replace B_g0r0_1 := cell_chg B_g0r0_1 Cw9 (by omega)
    have Sw9 : w8.heap.size ≤ w9.heap.size := Cw9.size
    replace X := Chg.ext X Cw9 (by omega)
    clear Cw9
    clear O_xN
    clear B_xN_0
    clear B_xN_1
    go_wp2_with fail
    refine (eqNet_c _ _ _ _ _ O_g0r0.view O_w0r0.view).mono ?_
    rintro e w10 ⟨rfl, Ew10⟩
    have Ew10c : Ext w9 w10 := Ew10
    replace O_w0r0 := O_w0r0.ext Ew10c
    replace O_g0r0 := O_g0r0.ext Ew10c
    replace B_AN_0 := cell_ext B_AN_0 Ew10c
    replace B_AN_1 := cell_ext B_AN_1 Ew10c
    replace B_w0r0_0 := cell_ext B_w0r0_0 Ew10c
    replace B_w0r0_1 := cell_ext B_w0r0_1 Ew10c
    replace B_g0r0_0 := cell_ext B_g0r0_0 Ew10c
    replace B_g0r0_1 := cell_ext B_g0r0_1 Ew10c
    have Sw10 : w9.heap.size ≤ w10.heap.size := by have := Ew10.size; (try simp at this); omega
    replace X := X.trans Ew10c
    clear Ew10 Ew10c
    go_wp2_with fail
    refine (markNet_c _ _ _ _ _ _ O_g0r0 (by omega) (by omega)).mono ?_
    rintro e w11 ⟨rfl, Cw11, O_g0r0'⟩
    replace O_w0r0 := O_w0r0.chg Cw11 (by omega)
    clear O_g0r0
    have O_g0r0 := O_g0r0'
    clear O_g0r0'
    replace B_AN_0 := cell_chg B_AN_0 Cw11 (by omega)
    replace B_AN_1 := cell_chg B_AN_1 Cw11 (by omega)
    replace B_w0r0_0 := cell_chg B_w0r0_0 Cw11 (by omega)
    replace B_w0r0_1 := cell_chg B_w0r0_1 Cw11 (by omega)
    replace B_g0r0_0 := cell_chg B_g0r0_0 Cw11 (by omega)
    replace B_g0r0_1 := cell_chg B_g0r0_1 Cw11 (by omega)
    have Sw11 : w10.heap.size ≤ w11.heap.size := Cw11.size
    replace X := Chg.ext X Cw11 (by omega)
    clear Cw11
    go_wp2_with fail
    refine (heldNet_c _ ((cutOff d_N d_A d_B).1) _ _ O_g0r0.view (by omega) (by omega)).mono ?_
    rintro e w12 ⟨rfl, Ew12⟩
    have Ew12c : Ext w11 w12 := Ew12
    replace O_w0r0 := O_w0r0.ext Ew12c
    replace O_g0r0 := O_g0r0.ext Ew12c
    replace B_AN_0 := cell_ext B_AN_0 Ew12c
    replace B_AN_1 := cell_ext B_AN_1 Ew12c
    replace B_w0r0_0 := cell_ext B_w0r0_0 Ew12c
    replace B_w0r0_1 := cell_ext B_w0r0_1 Ew12c
    replace B_g0r0_0 := cell_ext B_g0r0_0 Ew12c
    replace B_g0r0_1 := cell_ext B_g0r0_1 Ew12c
    have Sw12 : w11.heap.size ≤ w12.heap.size := by have := Ew12.size; (try simp at this); omega
    replace X := X.trans Ew12c
    clear Ew12 Ew12c
    go_wp2_with fail
    refine (toNet_c _ d_N _ (netC.vext H_N.out (X)) (by first | omega | exact sz_N)).mono ?_
    rintro e w13 ⟨u_uN, v_uN, rfl, Ew13, O_uN⟩
    replace O_uN := O_uN.wide (lo' := w12.heap.size) (hi' := w13.heap.size) (by simp) (Nat.le_refl _)
    have Ew13c : Ext w12 w13 := Ew13
    replace O_w0r0 := O_w0r0.ext Ew13c
    replace O_g0r0 := O_g0r0.ext Ew13c
    replace B_AN_0 := cell_ext B_AN_0 Ew13c
    replace B_AN_1 := cell_ext B_AN_1 Ew13c
    replace B_w0r0_0 := cell_ext B_w0r0_0 Ew13c
    replace B_w0r0_1 := cell_ext B_w0r0_1 Ew13c
    replace B_g0r0_0 := cell_ext B_g0r0_0 Ew13c
    replace B_g0r0_1 := cell_ext B_g0r0_1 Ew13c
    have Sw13 : w12.heap.size ≤ w13.heap.size := by have := Ew13.size; (try simp at this); omega
    replace X := X.trans Ew13c
    clear Ew13 Ew13c
    obtain ⟨⟨b_uN, c_uN, rfl⟩, bb_uN, cc_uN, rfl⟩ := net_take O_uN
    go_wp2_with fail
    refine (implCutOff_c _ _ _ _ _ O_uN.view).mono ?_
    rintro e w14 ⟨u_h0r0, v_h0r0, rfl, Ew14, O_h0r0⟩
    replace O_h0r0 := O_h0r0.wide (lo' := w13.heap.size) (hi' := w14.heap.size) (by simp) (Nat.le_refl _)
    have Ew14c : Ext w13 w14 := Ew14
    replace O_w0r0 := O_w0r0.ext Ew14c
    replace O_g0r0 := O_g0r0.ext Ew14c
    replace O_uN := O_uN.ext Ew14c
    replace B_AN_0 := cell_ext B_AN_0 Ew14c
    replace B_AN_1 := cell_ext B_AN_1 Ew14c
    replace B_w0r0_0 := cell_ext B_w0r0_0 Ew14c
    replace B_w0r0_1 := cell_ext B_w0r0_1 Ew14c
    replace B_g0r0_0 := cell_ext B_g0r0_0 Ew14c
    replace B_g0r0_1 := cell_ext B_g0r0_1 Ew14c
    have Sw14 : w13.heap.size ≤ w14.heap.size := by have := Ew14.size; (try simp at this); omega
    replace X := X.trans Ew14c
    clear Ew14 Ew14c
    obtain ⟨⟨b_h0r0, c_h0r0, rfl⟩, bb_h0r0, cc_h0r0, rfl⟩ := net_take O_h0r0
    clear O_uN
    have N_AN_0 : (W.heap.size) < w14.heap.size := by omega
    have N_w0r0_0 : (w3.heap.size) < w14.heap.size := by omega
    have N_g0r0_0 : (w5.heap.size) < w14.heap.size := by omega
    go_wp2_with fail
    refine (eqNet_c _ _ _ _ _ (O_h0r0.ext (Ext.pAlloc (Ext.refl _) _)).view (O_w0r0.ext (Ext.pAlloc (Ext.refl _) _)).view).mono ?_
    rintro e w15 ⟨rfl, Ew15⟩
    have Ew15c : Ext w14 w15 := Ext.trans (Ext.pAlloc (Ext.refl _) _) Ew15
    replace O_w0r0 := O_w0r0.ext Ew15c
    replace O_g0r0 := O_g0r0.ext Ew15c
    replace O_h0r0 := O_h0r0.ext Ew15c
    replace B_AN_0 := cell_ext B_AN_0 Ew15c
    replace B_AN_1 := cell_ext B_AN_1 Ew15c
    replace B_w0r0_0 := cell_ext B_w0r0_0 Ew15c
    replace B_w0r0_1 := cell_ext B_w0r0_1 Ew15c
    replace B_g0r0_0 := cell_ext B_g0r0_0 Ew15c
    replace B_g0r0_1 := cell_ext B_g0r0_1 Ew15c
    have B_h0r0_0 : w15.cell? ⟨(w14.heap.size), 0, none⟩ = some (.slice b_h0r0 ((cutOff d_N d_A d_B).1).1.length c_h0r0) := cell_ext (by simp [go_sem]) Ew15
    have B_h0r0_1 : w15.cell? ⟨(w14.heap.size), 1, none⟩ = some (.slice bb_h0r0 ((cutOff d_N d_A d_B).1).2.length cc_h0r0) := cell_ext (by simp [go_sem]) Ew15
    have Sw15 : w14.heap.size + 1 ≤ w15.heap.size := by have := Ew15.size; (try simp at this); omega
    replace X := X.trans Ew15c
    clear Ew15 Ew15c
    go_wp2_with fail
    refine (heldNet_c _ ((cutOff d_N d_A d_B).1) _ _ O_g0r0.view (by omega) (by omega)).mono ?_
    rintro e w16 ⟨rfl, Ew16⟩
    have Ew16c : Ext w15 w16 := Ew16
    replace O_w0r0 := O_w0r0.ext Ew16c
    replace O_g0r0 := O_g0r0.ext Ew16c
    replace O_h0r0 := O_h0r0.ext Ew16c
    replace B_AN_0 := cell_ext B_AN_0 Ew16c
    replace B_AN_1 := cell_ext B_AN_1 Ew16c
    replace B_w0r0_0 := cell_ext B_w0r0_0 Ew16c
    replace B_w0r0_1 := cell_ext B_w0r0_1 Ew16c
    replace B_g0r0_0 := cell_ext B_g0r0_0 Ew16c
    replace B_g0r0_1 := cell_ext B_g0r0_1 Ew16c
    replace B_h0r0_0 := cell_ext B_h0r0_0 Ew16c
    replace B_h0r0_1 := cell_ext B_h0r0_1 Ew16c
    have Sw16 : w15.heap.size ≤ w16.heap.size := by have := Ew16.size; (try simp at this); omega
    replace X := X.trans Ew16c
    clear Ew16 Ew16c
    go_wp2
    go_ret
    exact ⟨rfl, X⟩

set_option maxRecDepth 100000 in
theorem exactcutoff_holds : Rows.FnExactCutOffSaid :=
  OpenClaim.holds_of_wide 12 Try.f12 rfl rfl rfl rfl rfl rfl rfl ⟨rfl, rfl, rfl, rfl, rfl⟩ rfl rfl rfl rfl rfl (by kernel_rfl) Try.func12 (by kernel_rfl)
    (of_decide_eq_true (by kernel_rfl)) (by unfold Func.isWrapper; rw [if_neg (of_decide_eq_false (by kernel_rfl))]; exact ⟨rfl, rfl⟩)
    (fun os started H enc _ => law_lifted (C := Try.checked) (f := 12) (fn := Try.f12) (s := Rows.fnExactCutOffSpec) (tb := 4) Try.own started (by kernel_rfl) Try.func12 Try.laidOut (of_decide_eq_true (by kernel_rfl)) rfl Try.underlying4 rfl
      (fun ds h => by match ds, h with | [_, _, _], _ => exact ⟨rfl, rfl, rfl⟩)
      (ChangeSpec.witness6 (enc := enc) (C := Try.checked) false ⟨#[], #[.agg #[.slice none 0 0, .slice none 0 0], .int .i64 0, .int .i64 0], []⟩ 8 (by kernel_rfl) (by kernel_rfl) (by kernel_rfl) (by kernel_rfl))
      exactcutoff_c)

end Go.Proofs.Ytkigfmkdbgcpeaa
