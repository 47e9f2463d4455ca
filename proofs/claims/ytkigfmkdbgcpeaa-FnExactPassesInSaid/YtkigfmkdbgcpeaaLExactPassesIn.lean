/- The law FnExactPassesIn is true for every input: it returns true, and what it was given reads as before. -/
import Derived.Test.YtkigfmkdbgcpeaaTied
import Derived.Test.YtkigfmkdbgcpeaaNt3
set_option linter.unusedVariables false
set_option linter.unusedSimpArgs false
namespace Go.Proofs.Ytkigfmkdbgcpeaa
open Go.RowKit Go.Sl

set_option maxRecDepth 100000 in
theorem tiedMsg : Tied Try.prog msgC 45 := Tied.struct3 Try.underlying45 ⟨rfl, rfl, rfl⟩ rfl rfl rfl rfl (Tied.int Try.underlying2) (Tied.int Try.underlying2) tiedRow
theorem msg_take {lo hi : Nat} {w : World} {v : Value} {m : MsgD} {f t : Int} (h : msgC.own lo hi w [.int .i64 f, .int .i64 t, v] m) : ∃ a cap, v = .slice a m.2.2.length cap := by
  obtain ⟨v', e, h'⟩ := msg_own.1 h
  cases e
  obtain ⟨a, cap, h1, _⟩ := row_take h'
  exact ⟨a, cap, h1⟩
theorem szMsg_small (m : MsgD) (q : Int) (h0 : -1 ≤ q) (h1 : q ≤ 1048576) : (-1 ≤ szI m.2.2.length q ∧ szI m.2.2.length q ≤ 1048576) ∧ (¬ szI m.2.2.length q < 0 → m.2.2.length ≤ 1048576) := by
  unfold szI
  split <;> constructor <;> omega

set_option maxRecDepth 100000 in
theorem tiedMsgs : Tied Try.prog msgsC 22 := Tied.slice Try.underlying22 rfl (by decide) tiedMsg
set_option maxRecDepth 100000 in
theorem tiedLink : Tied Try.prog linkC 99 := Tied.struct2 Try.underlying99 ⟨rfl, rfl⟩ rfl rfl rfl (Tied.int Try.underlying2) (Tied.int Try.underlying2)
set_option maxRecDepth 100000 in
theorem tiedLinks : Tied Try.prog linksC 23 := Tied.slice Try.underlying23 rfl (by decide) tiedLink
set_option maxRecDepth 100000 in
theorem tiedNet : Tied Try.prog netC 25 := Tied.struct2 Try.underlying25 ⟨rfl, rfl⟩ rfl rfl rfl tiedMsgs tiedLinks
theorem mcnt_msz (l : List MsgD) : cntL mcnt l = 2 * l.length + cntL msz l := by
  induction l with
  | nil => rfl
  | cons x l ih => simp only [cntL, ih, List.length_cons, mcnt, msz]; omega
theorem szNet_small (m : NetD) (q : Int) (h0 : -1 ≤ q) (h1 : q ≤ 1048576) : (-1 ≤ szI (nsz m) q ∧ szI (nsz m) q ≤ 1048576) ∧ (¬ szI (nsz m) q < 0 → nsmall m ∧ ncnt m ≤ 2097152) := by
  obtain ⟨h2, h3⟩ := nsz_small m q h0 h1
  refine ⟨h2, fun h => ⟨h3 h, ?_⟩⟩
  unfold szI at h
  unfold ncnt
  rw [mcnt_msz, cntL_lcnt]
  unfold nsz at h
  split at h <;> omega
theorem net_take {lo hi : Nat} {w : World} {u v : Value} {m : NetD} (h : netC.own lo hi w [u, v] m) : (∃ a c, u = .slice a m.1.length c) ∧ ∃ a c, v = .slice a m.2.length c := by
  obtain ⟨u', v', e, hu, hv⟩ := net_V.1 h.view
  cases e
  exact ⟨sl_form hu, sl_form hv⟩

set_option maxHeartbeats 4000000 in
set_option maxRecDepth 100000 in
theorem exactpassesin_c (W : World) (args : Array Value) (hs : args.size = 3) (h : ∀ (j : Nat) t v, Try.f5.params[j]? = some t → args[j]? = some v → ArgOk Try.prog W t v) :
    Calls Try.prog 5 args W fun e W' => e = .returned (.bool true) ∧ Ext W W' := by
  match args, hs with
  | ⟨[a0, a1, a2]⟩, _ =>
    obtain ⟨cs_N, d_N, rfl, H_N'⟩ := (h 0 _ a0 rfl rfl).struct Try.underlying25 tiedNet
    have H_N : Hid (netC.V W cs_N d_N) := H_N'
    obtain ⟨u_N, v_N, rfl, _⟩ := net_V.1 H_N'; clear H_N'
    obtain ⟨d_A, rfl⟩ := (h 1 _ a1 rfl rfl).int Try.underlying2
    obtain ⟨d_B, rfl⟩ := (h 2 _ a2 rfl rfl).int Try.underlying2
    clear h
    have sz_N := szNet_small d_N 1048576 (by omega) (by omega)
    by_cases neg_N : szI (nsz d_N) 1048576 < 0
    · go_enter Try.func5, Try.ntmps5
      have X : Ext W W := Ext.refl W
      go_wp2_with fail
      refine (szNet_c _ d_N _ _ (netC.vext H_N.out (Ext.pAlloc (X) _)) (by omega) (by omega)).mono ?_
      rintro e w1 ⟨rfl, Ew1⟩
      have Ew1c : Ext W w1 := Ext.trans (Ext.pAlloc (Ext.refl _) _) Ew1
      have B_AN_0 : w1.cell? ⟨(W.heap.size), 0, none⟩ = some (u_N) := cell_ext (by simp [go_sem]) Ew1
      have B_AN_1 : w1.cell? ⟨(W.heap.size), 1, none⟩ = some (v_N) := cell_ext (by simp [go_sem]) Ew1
      have Sw1 : W.heap.size + 1 ≤ w1.heap.size := by have := Ew1.size; (try simp at this); omega
      replace X := X.trans Ew1c
      clear Ew1 Ew1c
      go_wp2
      go_ret
      exact ⟨rfl, by first | exact X | (repeat (first | with_reducible exact Ext.refl _ | with_reducible assumption | with_reducible refine Ext.pAlloc ?_ _ | ((with_reducible refine Ext.pSet ?_ ?_ _); rotate_left; (simp <;> omega)) | with_reducible refine Ext.pDrew ?_ | with_reducible refine Ext.pDrewN ?_ _ | with_reducible refine Ext.trans ?_ (by with_reducible assumption)))⟩
    replace sz_N := sz_N.2 neg_N
    have szc_N := sz_N.2
    replace sz_N := sz_N.1
    go_enter Try.func5, Try.ntmps5
    have X : Ext W W := Ext.refl W
    go_wp2_with fail
    refine (szNet_c _ d_N _ _ (netC.vext H_N.out (Ext.pAlloc (X) _)) (by omega) (by omega)).mono ?_
    rintro e w1 ⟨rfl, Ew1⟩
    have Ew1c : Ext W w1 := Ext.trans (Ext.pAlloc (Ext.refl _) _) Ew1
    have B_AN_0 : w1.cell? ⟨(W.heap.size), 0, none⟩ = some (u_N) := cell_ext (by simp [go_sem]) Ew1
    have B_AN_1 : w1.cell? ⟨(W.heap.size), 1, none⟩ = some (v_N) := cell_ext (by simp [go_sem]) Ew1
    have Sw1 : W.heap.size + 1 ≤ w1.heap.size := by have := Ew1.size; (try simp at this); omega
    replace X := X.trans Ew1c
    clear Ew1 Ew1c
    go_wp2_with fail
    refine (toNet_c _ d_N _ (netC.vext H_N.out (X)) (by first | omega | exact sz_N)).mono ?_
    rintro e w2 ⟨u_tN, v_tN, rfl, Ew2, O_tN⟩
    replace O_tN := O_tN.wide (lo' := w1.heap.size) (hi' := w2.heap.size) (by simp) (Nat.le_refl _)
    have Ew2c : Ext w1 w2 := Ew2
    replace B_AN_0 := cell_ext B_AN_0 Ew2c
    replace B_AN_1 := cell_ext B_AN_1 Ew2c
    have Sw2 : w1.heap.size ≤ w2.heap.size := by have := Ew2.size; (try simp at this); omega
    replace X := X.trans Ew2c
    clear Ew2 Ew2c
    obtain ⟨⟨b_tN, c_tN, rfl⟩, bb_tN, cc_tN, rfl⟩ := net_take O_tN
    go_wp2_with fail
    refine (specPassesIn_c _ _ _ _ _ O_tN.view).mono ?_
    rintro e w3 ⟨rfl, Ew3⟩
    have Ew3c : Ext w2 w3 := Ew3
    replace O_tN := O_tN.ext Ew3c
    replace B_AN_0 := cell_ext B_AN_0 Ew3c
    replace B_AN_1 := cell_ext B_AN_1 Ew3c
    have Sw3 : w2.heap.size ≤ w3.heap.size := by have := Ew3.size; (try simp at this); omega
    replace X := X.trans Ew3c
    clear Ew3 Ew3c
    clear O_tN
    go_wp2_with fail
    refine (toNet_c _ d_N _ (netC.vext H_N.out (X)) (by first | omega | exact sz_N)).mono ?_
    rintro e w4 ⟨u_xN, v_xN, rfl, Ew4, O_xN⟩
    replace O_xN := O_xN.wide (lo' := w3.heap.size) (hi' := w4.heap.size) (by simp) (Nat.le_refl _)
    have Ew4c : Ext w3 w4 := Ew4
    replace B_AN_0 := cell_ext B_AN_0 Ew4c
    replace B_AN_1 := cell_ext B_AN_1 Ew4c
    have Sw4 : w3.heap.size ≤ w4.heap.size := by have := Ew4.size; (try simp at this); omega
    replace X := X.trans Ew4c
    clear Ew4 Ew4c
    obtain ⟨⟨b_xN, c_xN, rfl⟩, bb_xN, cc_xN, rfl⟩ := net_take O_xN
    have N_AN_0 : (W.heap.size) < w4.heap.size := by omega
    go_wp2_with fail
    refine (implPassesIn_c _ _ _ _ _ (O_xN.ext (Ext.pAlloc (Ext.refl _) _)).view).mono ?_
    rintro e w5 ⟨rfl, Ew5⟩
    have Ew5c : Ext w4 w5 := Ext.trans (Ext.pAlloc (Ext.refl _) _) Ew5
    replace O_xN := O_xN.ext Ew5c
    replace B_AN_0 := cell_ext B_AN_0 Ew5c
    replace B_AN_1 := cell_ext B_AN_1 Ew5c
    have B_xN_0 : w5.cell? ⟨(w4.heap.size), 0, none⟩ = some (.slice b_xN (d_N).1.length c_xN) := cell_ext (by simp [go_sem]) Ew5
    have B_xN_1 : w5.cell? ⟨(w4.heap.size), 1, none⟩ = some (.slice bb_xN (d_N).2.length cc_xN) := cell_ext (by simp [go_sem]) Ew5
    have Sw5 : w4.heap.size + 1 ≤ w5.heap.size := by have := Ew5.size; (try simp at this); omega
    replace X := X.trans Ew5c
    clear Ew5 Ew5c
    go_wp2
    go_region_held3 (fun ω => ω.cell? ⟨(w4.heap.size), 0, none⟩ = some (.slice b_xN (d_N).1.length c_xN) ∧ ω.cell? ⟨(w4.heap.size), 1, none⟩ = some (.slice bb_xN (d_N).2.length cc_xN) ∧ ω.cell? ⟨(W.heap.size), 0, none⟩ = some (u_N) ∧ ω.cell? ⟨(W.heap.size), 1, none⟩ = some (v_N) ∧ Ext w5 ω)
      ((refine ⟨cell_ext B_xN_0 ?_, cell_ext B_xN_1 ?_, cell_ext B_AN_0 ?_, cell_ext B_AN_1 ?_, ?_⟩ <;> (repeat (first | with_reducible exact Ext.refl _ | with_reducible assumption | with_reducible refine Ext.pAlloc ?_ _ | ((with_reducible refine Ext.pSet ?_ ?_ _); rotate_left; (simp <;> omega)) | with_reducible refine Ext.pDrew ?_ | with_reducible refine Ext.pDrewN ?_ _ | with_reducible refine Ext.trans ?_ (by with_reducible assumption)))))
      ((first
        | (go_at_call 17; refine (toNet_c _ d_N _ (netC.vext H_N.out (by repeat (first | with_reducible exact Ext.refl _ | with_reducible assumption | with_reducible refine Ext.pAlloc ?_ _ | ((with_reducible refine Ext.pSet ?_ ?_ _); rotate_left; (simp <;> omega)) | with_reducible refine Ext.pDrew ?_ | with_reducible refine Ext.pDrewN ?_ _ | with_reducible refine Ext.trans ?_ (by with_reducible assumption)))) (by first | omega | exact sz_N)).mono ?_; rintro e w6 ⟨u_yN, v_yN, rfl, Ew6, O_yN⟩; obtain ⟨⟨b_yN, c_yN, rfl⟩, bb_yN, cc_yN, rfl⟩ := net_take O_yN)
        | (go_at_call 19; refine (eqNet_c _ _ d_N d_N _ (netC.vext O_xN.view (by repeat (first | with_reducible exact Ext.refl _ | with_reducible assumption | with_reducible refine Ext.pAlloc ?_ _ | ((with_reducible refine Ext.pSet ?_ ?_ _); rotate_left; (simp <;> omega)) | with_reducible refine Ext.pDrew ?_ | with_reducible refine Ext.pDrewN ?_ _ | with_reducible refine Ext.trans ?_ (by with_reducible assumption)))) O_yN.view).mono ?_; rintro e w7 ⟨rfl, Ew7⟩)))
    have Ew7r : Ext w5 w7 := (Ext.drew _).trans (Ew6.trans Ew7)
    clear Ew6 Ew7 O_yN
    have Ew7rc : Ext w5 w7 := Ew7r
    replace O_xN := O_xN.ext Ew7rc
    replace B_AN_0 := cell_ext B_AN_0 Ew7rc
    replace B_AN_1 := cell_ext B_AN_1 Ew7rc
    replace B_xN_0 := cell_ext B_xN_0 Ew7rc
    replace B_xN_1 := cell_ext B_xN_1 Ew7rc
    have Sw7 : w5.heap.size ≤ w7.heap.size := by have := Ew7r.size; (try simp at this); omega
    replace X := X.trans Ew7rc
    clear Ew7r Ew7rc
    go_wp2
    go_ret
    exact ⟨rfl, X⟩

set_option maxRecDepth 100000 in
theorem exactpassesin_holds : Rows.FnExactPassesInSaid :=
  OpenClaim.holds_of_wide 5 Try.f5 rfl rfl rfl rfl rfl rfl rfl ⟨rfl, rfl, rfl, rfl, rfl⟩ rfl rfl rfl rfl rfl (by kernel_rfl) Try.func5 (by kernel_rfl)
    (of_decide_eq_true (by kernel_rfl)) (by unfold Func.isWrapper; rw [if_neg (of_decide_eq_false (by kernel_rfl))]; exact ⟨rfl, rfl⟩)
    (fun os started H enc _ => law_lifted (C := Try.checked) (f := 5) (fn := Try.f5) (s := Rows.fnExactPassesInSpec) (tb := 4) Try.own started (by kernel_rfl) Try.func5 Try.laidOut (of_decide_eq_true (by kernel_rfl)) rfl Try.underlying4 rfl
      (fun ds h => by match ds, h with | [_, _, _], _ => exact ⟨rfl, rfl, rfl⟩)
      (ChangeSpec.witness6 (enc := enc) (C := Try.checked) false ⟨#[], #[.agg #[.slice none 0 0, .slice none 0 0], .int .i64 0, .int .i64 0], []⟩ 8 (by kernel_rfl) (by kernel_rfl) (by kernel_rfl) (by kernel_rfl))
      exactpassesin_c)

end Go.Proofs.Ytkigfmkdbgcpeaa
