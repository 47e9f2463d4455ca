/- The law FnExactMsgOk is true for every input: it returns true, and what it was given reads as before. -/
import Derived.Test.YthgpghgcjjejhaaTied
import Derived.Test.YthgpghgcjjejhaaMsg0
import Derived.Deep.RegionHeld3
set_option linter.unusedVariables false
set_option linter.unusedSimpArgs false
namespace Go.Proofs.Ythgpghgcjjejhaa
open Go.RowKit Go.Sl

theorem tiedMsg : Tied Try.prog msgC 42 := Tied.struct3 Try.underlying42 ⟨rfl, rfl, rfl⟩ rfl rfl rfl rfl (Tied.int Try.underlying2) (Tied.int Try.underlying2) tiedRow
theorem msg_take {lo hi : Nat} {w : World} {v : Value} {m : MsgD} {f t : Int} (h : msgC.own lo hi w [.int .i64 f, .int .i64 t, v] m) : ∃ a cap, v = .slice a m.2.2.length cap := by
  obtain ⟨v', e, h'⟩ := msg_own.1 h
  cases e
  obtain ⟨a, cap, h1, _⟩ := row_take h'
  exact ⟨a, cap, h1⟩
theorem szMsg_small (m : MsgD) (q : Int) (h0 : -1 ≤ q) (h1 : q ≤ 1048576) : (-1 ≤ szI m.2.2.length q ∧ szI m.2.2.length q ≤ 1048576) ∧ (¬ szI m.2.2.length q < 0 → m.2.2.length ≤ 1048576) := by
  unfold szI
  split <;> constructor <;> omega

set_option maxHeartbeats 4000000 in
set_option maxRecDepth 100000 in
theorem exactmsgok_c (W : World) (args : Array Value) (hs : args.size = 1) (h : ∀ (j : Nat) t v, Try.f13.params[j]? = some t → args[j]? = some v → ArgOk Try.prog W t v) :
    Calls Try.prog 13 args W fun e W' => e = .returned (.bool true) ∧ Ext W W' := by
  match args, hs with
  | ⟨[a0]⟩, _ =>
    obtain ⟨cs_M, d_M, rfl, H_M'⟩ := (h 0 _ a0 rfl rfl).struct Try.underlying42 tiedMsg
    have H_M : Hid (msgC.V W cs_M d_M) := H_M'
    obtain ⟨v_M, rfl, _⟩ := msg_V.1 H_M'; clear H_M'
    clear h
    have sz_M := szMsg_small d_M 1048576 (by omega) (by omega)
    by_cases neg_M : szI (d_M).2.2.length 1048576 < 0
    · go_enter Try.func13, Try.ntmps13
      have X : Ext W W := Ext.refl W
      go_wp2_with fail
      refine (szMsg_c _ d_M _ _ (msgC.vext H_M.out (Ext.pAlloc (X) _)) (by omega) (by omega)).mono ?_
      rintro e w1 ⟨rfl, Ew1⟩
      have Ew1c : Ext W w1 := Ext.trans (Ext.pAlloc (Ext.refl _) _) Ew1
      have B_AM_0 : w1.cell? ⟨(W.heap.size), 0, none⟩ = some (.int .i64 (d_M).1) := cell_ext (by simp [go_sem]) Ew1
      have B_AM_1 : w1.cell? ⟨(W.heap.size), 1, none⟩ = some (.int .i64 (d_M).2.1) := cell_ext (by simp [go_sem]) Ew1
      have B_AM_2 : w1.cell? ⟨(W.heap.size), 2, none⟩ = some (v_M) := cell_ext (by simp [go_sem]) Ew1
      have Sw1 : W.heap.size + 1 ≤ w1.heap.size := by have := Ew1.size; (try simp at this); omega
      replace X := X.trans Ew1c
      clear Ew1 Ew1c
      go_wp2
      go_ret
      exact ⟨rfl, by first | exact X | (repeat (first | with_reducible exact Ext.refl _ | with_reducible assumption | with_reducible refine Ext.pAlloc ?_ _ | ((with_reducible refine Ext.pSet ?_ ?_ _); rotate_left; (simp <;> omega)) | with_reducible refine Ext.pDrew ?_ | with_reducible refine Ext.pDrewN ?_ _ | with_reducible refine Ext.trans ?_ (by with_reducible assumption)))⟩
    replace sz_M := sz_M.2 neg_M
    go_enter Try.func13, Try.ntmps13
    have X : Ext W W := Ext.refl W
    go_wp2_with fail
    refine (szMsg_c _ d_M _ _ (msgC.vext H_M.out (Ext.pAlloc (X) _)) (by omega) (by omega)).mono ?_
    rintro e w1 ⟨rfl, Ew1⟩
    have Ew1c : Ext W w1 := Ext.trans (Ext.pAlloc (Ext.refl _) _) Ew1
    have B_AM_0 : w1.cell? ⟨(W.heap.size), 0, none⟩ = some (.int .i64 (d_M).1) := cell_ext (by simp [go_sem]) Ew1
    have B_AM_1 : w1.cell? ⟨(W.heap.size), 1, none⟩ = some (.int .i64 (d_M).2.1) := cell_ext (by simp [go_sem]) Ew1
    have B_AM_2 : w1.cell? ⟨(W.heap.size), 2, none⟩ = some (v_M) := cell_ext (by simp [go_sem]) Ew1
    have Sw1 : W.heap.size + 1 ≤ w1.heap.size := by have := Ew1.size; (try simp at this); omega
    replace X := X.trans Ew1c
    clear Ew1 Ew1c
    go_wp2_with fail
    refine (toMsg_c _ d_M _ (msgC.vext H_M.out (X)) (by first | omega | exact sz_M)).mono ?_
    rintro e w2 ⟨v_tM, rfl, Ew2, O_tM⟩
    replace O_tM := O_tM.wide (lo' := w1.heap.size) (hi' := w2.heap.size) (by simp) (Nat.le_refl _)
    have Ew2c : Ext w1 w2 := Ew2
    replace B_AM_0 := cell_ext B_AM_0 Ew2c
    replace B_AM_1 := cell_ext B_AM_1 Ew2c
    replace B_AM_2 := cell_ext B_AM_2 Ew2c
    have Sw2 : w1.heap.size ≤ w2.heap.size := by have := Ew2.size; (try simp at this); omega
    replace X := X.trans Ew2c
    clear Ew2 Ew2c
    obtain ⟨b_tM, c_tM, rfl⟩ := msg_take O_tM
    go_wp2_with fail
    refine (specMsgOk_c _ _ _ O_tM.view).mono ?_
    rintro e w3 ⟨rfl, Ew3⟩
    have Ew3c : Ext w2 w3 := Ew3
    replace O_tM := O_tM.ext Ew3c
    replace B_AM_0 := cell_ext B_AM_0 Ew3c
    replace B_AM_1 := cell_ext B_AM_1 Ew3c
    replace B_AM_2 := cell_ext B_AM_2 Ew3c
    have Sw3 : w2.heap.size ≤ w3.heap.size := by have := Ew3.size; (try simp at this); omega
    replace X := X.trans Ew3c
    clear Ew3 Ew3c
    clear O_tM
    go_wp2_with fail
    refine (toMsg_c _ d_M _ (msgC.vext H_M.out (X)) (by first | omega | exact sz_M)).mono ?_
    rintro e w4 ⟨v_xM, rfl, Ew4, O_xM⟩
    replace O_xM := O_xM.wide (lo' := w3.heap.size) (hi' := w4.heap.size) (by simp) (Nat.le_refl _)
    have Ew4c : Ext w3 w4 := Ew4
    replace B_AM_0 := cell_ext B_AM_0 Ew4c
    replace B_AM_1 := cell_ext B_AM_1 Ew4c
    replace B_AM_2 := cell_ext B_AM_2 Ew4c
    have Sw4 : w3.heap.size ≤ w4.heap.size := by have := Ew4.size; (try simp at this); omega
    replace X := X.trans Ew4c
    clear Ew4 Ew4c
    obtain ⟨b_xM, c_xM, rfl⟩ := msg_take O_xM
    have N_AM_0 : (W.heap.size) < w4.heap.size := by omega
    go_wp2_with fail
    refine (implMsgOk_c _ _ _ (O_xM.ext (Ext.pAlloc (Ext.refl _) _)).view).mono ?_
    rintro e w5 ⟨rfl, Ew5⟩
    have Ew5c : Ext w4 w5 := Ext.trans (Ext.pAlloc (Ext.refl _) _) Ew5
    replace O_xM := O_xM.ext Ew5c
    replace B_AM_0 := cell_ext B_AM_0 Ew5c
    replace B_AM_1 := cell_ext B_AM_1 Ew5c
    replace B_AM_2 := cell_ext B_AM_2 Ew5c
    have B_xM_0 : w5.cell? ⟨(w4.heap.size), 0, none⟩ = some (.int .i64 (d_M).1) := cell_ext (by simp [go_sem]) Ew5
    have B_xM_1 : w5.cell? ⟨(w4.heap.size), 1, none⟩ = some (.int .i64 (d_M).2.1) := cell_ext (by simp [go_sem]) Ew5
    have B_xM_2 : w5.cell? ⟨(w4.heap.size), 2, none⟩ = some (.slice b_xM (d_M).2.2.length c_xM) := cell_ext (by simp [go_sem]) Ew5
    have Sw5 : w4.heap.size + 1 ≤ w5.heap.size := by have := Ew5.size; (try simp at this); omega
    replace X := X.trans Ew5c
    clear Ew5 Ew5c
    go_wp2
    go_region_held3 (fun ω => ω.cell? ⟨(w4.heap.size), 0, none⟩ = some (.int .i64 (d_M).1) ∧ ω.cell? ⟨(w4.heap.size), 1, none⟩ = some (.int .i64 (d_M).2.1) ∧ ω.cell? ⟨(w4.heap.size), 2, none⟩ = some (.slice b_xM (d_M).2.2.length c_xM) ∧ ω.cell? ⟨(W.heap.size), 0, none⟩ = some (.int .i64 (d_M).1) ∧ ω.cell? ⟨(W.heap.size), 1, none⟩ = some (.int .i64 (d_M).2.1) ∧ ω.cell? ⟨(W.heap.size), 2, none⟩ = some (v_M) ∧ Ext w5 ω)
      ((refine ⟨cell_ext B_xM_0 ?_, cell_ext B_xM_1 ?_, cell_ext B_xM_2 ?_, cell_ext B_AM_0 ?_, cell_ext B_AM_1 ?_, cell_ext B_AM_2 ?_, ?_⟩ <;> (repeat (first | with_reducible exact Ext.refl _ | with_reducible assumption | with_reducible refine Ext.pAlloc ?_ _ | ((with_reducible refine Ext.pSet ?_ ?_ _); rotate_left; (simp <;> omega)) | with_reducible refine Ext.pDrew ?_ | with_reducible refine Ext.pDrewN ?_ _ | with_reducible refine Ext.trans ?_ (by with_reducible assumption)))))
      ((first
        | (go_at_call 39; refine (toMsg_c _ d_M _ (msgC.vext H_M.out (by repeat (first | with_reducible exact Ext.refl _ | with_reducible assumption | with_reducible refine Ext.pAlloc ?_ _ | ((with_reducible refine Ext.pSet ?_ ?_ _); rotate_left; (simp <;> omega)) | with_reducible refine Ext.pDrew ?_ | with_reducible refine Ext.pDrewN ?_ _ | with_reducible refine Ext.trans ?_ (by with_reducible assumption)))) (by omega)).mono ?_; rintro e w6 ⟨v_yM, rfl, Ew6, O_yM⟩; obtain ⟨b_yM, c_yM, rfl⟩ := msg_take O_yM)
        | (go_at_call 41; refine (eqMsg_c _ _ d_M d_M _ (msgC.vext O_xM.view (by repeat (first | with_reducible exact Ext.refl _ | with_reducible assumption | with_reducible refine Ext.pAlloc ?_ _ | ((with_reducible refine Ext.pSet ?_ ?_ _); rotate_left; (simp <;> omega)) | with_reducible refine Ext.pDrew ?_ | with_reducible refine Ext.pDrewN ?_ _ | with_reducible refine Ext.trans ?_ (by with_reducible assumption)))) O_yM.view).mono ?_; rintro e w7 ⟨rfl, Ew7⟩)))
    have Ew7r : Ext w5 w7 := (Ext.drew _).trans (Ew6.trans Ew7)
    clear Ew6 Ew7 O_yM
    have Ew7rc : Ext w5 w7 := Ew7r
    replace O_xM := O_xM.ext Ew7rc
    replace B_AM_0 := cell_ext B_AM_0 Ew7rc
    replace B_AM_1 := cell_ext B_AM_1 Ew7rc
    replace B_AM_2 := cell_ext B_AM_2 Ew7rc
    replace B_xM_0 := cell_ext B_xM_0 Ew7rc
    replace B_xM_1 := cell_ext B_xM_1 Ew7rc
    replace B_xM_2 := cell_ext B_xM_2 Ew7rc
    have Sw7 : w5.heap.size ≤ w7.heap.size := by have := Ew7r.size; (try simp at this); omega
    replace X := X.trans Ew7rc
    clear Ew7r Ew7rc
    go_wp2
    go_ret
    exact ⟨rfl, X⟩

set_option maxRecDepth 100000 in
theorem exactmsgok_holds : Rows.FnExactMsgOkSaid :=
  OpenClaim.holds_of_wide 13 Try.f13 rfl rfl rfl rfl rfl rfl rfl ⟨rfl, rfl, rfl, rfl, rfl⟩ rfl rfl rfl rfl rfl (by kernel_rfl) Try.func13 (by kernel_rfl)
    (of_decide_eq_true (by kernel_rfl)) (by unfold Func.isWrapper; rw [if_neg (of_decide_eq_false (by kernel_rfl))]; exact ⟨rfl, rfl⟩)
    (fun os started H enc _ => law_lifted (C := Try.checked) (f := 13) (fn := Try.f13) (s := Rows.fnExactMsgOkSpec) (tb := 4) Try.own started (by kernel_rfl) Try.func13 Try.laidOut (of_decide_eq_true (by kernel_rfl)) rfl Try.underlying4 rfl
      (fun ds h => by match ds, h with | [_], _ => exact ⟨rfl, rfl, rfl⟩)
      (ChangeSpec.witness6 (enc := enc) (C := Try.checked) false ⟨#[], #[.agg #[.int .i64 0, .int .i64 0, .slice none 0 0]], []⟩ 8 (by kernel_rfl) (by kernel_rfl) (by kernel_rfl) (by kernel_rfl))
      exactmsgok_c)

end Go.Proofs.Ythgpghgcjjejhaa
