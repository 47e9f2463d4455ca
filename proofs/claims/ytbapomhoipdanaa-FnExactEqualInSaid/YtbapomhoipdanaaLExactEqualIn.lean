/- The law FnExactEqualIn is true for every input: it returns true, and what it was given reads as before. -/
import Derived.Test.YtbapomhoipdanaaTied
import Derived.Test.YtbapomhoipdanaaTw3
set_option linter.unusedVariables false
set_option linter.unusedSimpArgs false
namespace Go.Proofs.Ytbapomhoipdanaa
open Go.RowKit Go.Sl

set_option maxRecDepth 100000 in
theorem tiedRows : Tied Try.prog rowsC 22 := Tied.slice Try.underlying22 rfl (by decide) tiedRow
set_option maxRecDepth 100000 in
theorem tiedWrite : Tied Try.prog writeC 109 := Tied.struct2 Try.underlying109 ⟨rfl, rfl⟩ rfl rfl rfl (Tied.int Try.underlying2) tiedRow
set_option maxRecDepth 100000 in
theorem tiedWait : Tied Try.prog waitC 23 := Tied.slice Try.underlying23 rfl (by decide) tiedWrite
set_option maxRecDepth 100000 in
theorem tiedDisk : Tied Try.prog diskC 25 := Tied.struct2 Try.underlying25 ⟨rfl, rfl⟩ rfl rfl rfl tiedRows tiedWait
theorem wcnt_wsz (l : List WriteD) : cntL wcnt l = l.length + cntL wsz l := by
  induction l with
  | nil => rfl
  | cons x l ih => simp only [cntL, ih, List.length_cons, wcnt, wsz]; omega
theorem szDisk_small (m : DiskD) (q : Int) (h0 : -1 ≤ q) (h1 : q ≤ 1048576) : (-1 ≤ szI (dsz m) q ∧ szI (dsz m) q ≤ 1048576) ∧ (¬ szI (dsz m) q < 0 → dsmall m ∧ dcnt m ≤ 1048576) := by
  obtain ⟨h2, h3⟩ := dsz_small m q h0 h1
  refine ⟨h2, fun h => ⟨h3 h, ?_⟩⟩
  unfold szI at h
  unfold dcnt
  rw [wcnt_wsz]
  unfold dsz at h
  split at h <;> omega
theorem disk_take {lo hi : Nat} {w : World} {u v : Value} {m : DiskD} (h : diskC.own lo hi w [u, v] m) : (∃ a c, u = .slice a m.1.length c) ∧ ∃ a c, v = .slice a m.2.length c := by
  obtain ⟨u', v', e, hu, hv⟩ := disk_V.1 h.view
  cases e
  exact ⟨sl_form hu, sl_form hv⟩

set_option maxRecDepth 100000 in
theorem tiedTwo : Tied Try.prog twoC 27 := Tied.struct2 Try.underlying27 ⟨rfl, rfl⟩ rfl rfl rfl tiedDisk tiedDisk
theorem szTwo_small (m : TwoD) (q : Int) (h0 : -1 ≤ q) (h1 : q ≤ 1048576) : (-1 ≤ szI (tsz m) q ∧ szI (tsz m) q ≤ 1048576) ∧ (¬ szI (tsz m) q < 0 → tsmall m ∧ tcnt m ≤ 1048576) := by
  have e : ∀ (n : Nat), -1 ≤ szI n q ∧ szI n q ≤ 1048576 := fun n => by unfold szI; split <;> constructor <;> omega
  refine ⟨e _, fun h => ?_⟩
  have hq : (tsz m : Int) ≤ q := by
    unfold szI at h
    split at h <;> omega
  unfold tsz at hq
  have a := szDisk_small m.1 1048576 (by omega) (by omega)
  have b := szDisk_small m.2 1048576 (by omega) (by omega)
  have a' : ¬ szI (dsz m.1) 1048576 < 0 := by unfold szI; rw [if_neg (by omega)]; omega
  have b' : ¬ szI (dsz m.2) 1048576 < 0 := by unfold szI; rw [if_neg (by omega)]; omega
  have hc : ∀ d : DiskD, dcnt d ≤ dsz d := fun d => by unfold dcnt dsz; rw [wcnt_wsz]; omega
  have h1 := hc m.1
  have h2 := hc m.2
  exact ⟨⟨(a.2 a').1, (b.2 b').1⟩, by unfold tcnt; omega⟩
theorem two_take {lo hi : Nat} {w : World} {u v p q : Value} {m : TwoD} (h : twoC.own lo hi w [u, v, p, q] m) : ((∃ a c, u = .slice a m.1.1.length c) ∧ ∃ a c, v = .slice a m.1.2.length c) ∧ (∃ a c, p = .slice a m.2.1.length c) ∧ ∃ a c, q = .slice a m.2.2.length c := by
  obtain ⟨u', v', p', q', e, hu, hv⟩ := two_V.1 h.view
  cases e
  exact ⟨disk_forms hu, disk_forms hv⟩

set_option maxHeartbeats 4000000 in
set_option maxRecDepth 100000 in
theorem exactequalin_c (W : World) (args : Array Value) (hs : args.size = 1) (h : ∀ (j : Nat) t v, Try.f3.params[j]? = some t → args[j]? = some v → ArgOk Try.prog W t v) :
    Calls Try.prog 3 args W fun e W' => e = .returned (.bool true) ∧ Ext W W' := by
  match args, hs with
  | ⟨[a0]⟩, _ =>
    obtain ⟨cs_T, d_T, rfl, H_T'⟩ := (h 0 _ a0 rfl rfl).struct Try.underlying27 tiedTwo
    have H_T : Hid (twoC.V W cs_T d_T) := H_T'
    obtain ⟨u_T, v_T, p_T, q_T, rfl, _⟩ := two_V.1 H_T'; clear H_T'
    clear h
    have sz_T := szTwo_small d_T 1048576 (by omega) (by omega)
    by_cases neg_T : szI (tsz d_T) 1048576 < 0
    · go_enter Try.func3, Try.ntmps3
      have X : Ext W W := Ext.refl W
      go_wp2_with fail
      refine (szTwo_c _ d_T _ _ (twoC.vext H_T.out (Ext.pAlloc (X) _)) (by omega) (by omega)).mono ?_
      rintro e w1 ⟨rfl, Ew1⟩
      have Ew1c : Ext W w1 := Ext.trans (Ext.pAlloc (Ext.refl _) _) Ew1
      have B_AT_0 : w1.cell? ⟨(W.heap.size), 0, none⟩ = some (u_T) := cell_ext (by simp [go_sem]) Ew1
      have B_AT_1 : w1.cell? ⟨(W.heap.size), 1, none⟩ = some (v_T) := cell_ext (by simp [go_sem]) Ew1
      have B_AT_2 : w1.cell? ⟨(W.heap.size), 2, none⟩ = some (p_T) := cell_ext (by simp [go_sem]) Ew1
      have B_AT_3 : w1.cell? ⟨(W.heap.size), 3, none⟩ = some (q_T) := cell_ext (by simp [go_sem]) Ew1
      have Sw1 : W.heap.size + 1 ≤ w1.heap.size := by have := Ew1.size; (try simp at this); omega
      replace X := X.trans Ew1c
      clear Ew1 Ew1c
      go_wp2
      go_ret
      exact ⟨rfl, by first | exact X | (repeat (first | with_reducible exact Ext.refl _ | with_reducible assumption | with_reducible refine Ext.pAlloc ?_ _ | ((with_reducible refine Ext.pSet ?_ ?_ _); rotate_left; (simp <;> omega)) | with_reducible refine Ext.pDrew ?_ | with_reducible refine Ext.pDrewN ?_ _ | with_reducible refine Ext.trans ?_ (by with_reducible assumption)))⟩
    replace sz_T := sz_T.2 neg_T
    have szc_T := sz_T.2
    replace sz_T := sz_T.1
    go_enter Try.func3, Try.ntmps3
    have X : Ext W W := Ext.refl W
    go_wp2_with fail
    refine (szTwo_c _ d_T _ _ (twoC.vext H_T.out (Ext.pAlloc (X) _)) (by omega) (by omega)).mono ?_
    rintro e w1 ⟨rfl, Ew1⟩
    have Ew1c : Ext W w1 := Ext.trans (Ext.pAlloc (Ext.refl _) _) Ew1
    have B_AT_0 : w1.cell? ⟨(W.heap.size), 0, none⟩ = some (u_T) := cell_ext (by simp [go_sem]) Ew1
    have B_AT_1 : w1.cell? ⟨(W.heap.size), 1, none⟩ = some (v_T) := cell_ext (by simp [go_sem]) Ew1
    have B_AT_2 : w1.cell? ⟨(W.heap.size), 2, none⟩ = some (p_T) := cell_ext (by simp [go_sem]) Ew1
    have B_AT_3 : w1.cell? ⟨(W.heap.size), 3, none⟩ = some (q_T) := cell_ext (by simp [go_sem]) Ew1
    have Sw1 : W.heap.size + 1 ≤ w1.heap.size := by have := Ew1.size; (try simp at this); omega
    replace X := X.trans Ew1c
    clear Ew1 Ew1c
    go_wp2_with fail
    refine (toTwo_c _ d_T _ (twoC.vext H_T.out (X)) (by first | omega | exact sz_T)).mono ?_
    rintro e w2 ⟨u_tT, v_tT, p_tT, q_tT, rfl, Ew2, O_tT⟩
    replace O_tT := O_tT.wide (lo' := w1.heap.size) (hi' := w2.heap.size) (by simp) (Nat.le_refl _)
    have Ew2c : Ext w1 w2 := Ew2
    replace B_AT_0 := cell_ext B_AT_0 Ew2c
    replace B_AT_1 := cell_ext B_AT_1 Ew2c
    replace B_AT_2 := cell_ext B_AT_2 Ew2c
    replace B_AT_3 := cell_ext B_AT_3 Ew2c
    have Sw2 : w1.heap.size ≤ w2.heap.size := by have := Ew2.size; (try simp at this); omega
    replace X := X.trans Ew2c
    clear Ew2 Ew2c
    obtain ⟨⟨⟨b_tT, c_tT, rfl⟩, bb_tT, cc_tT, rfl⟩, ⟨bp_tT, cp_tT, rfl⟩, bq_tT, cq_tT, rfl⟩ := two_take O_tT
    go_wp2_with fail
    refine (specEqualIn_c _ _ _ O_tT.view).mono ?_
    rintro e w3 ⟨rfl, Ew3⟩
    have Ew3c : Ext w2 w3 := Ew3
    replace O_tT := O_tT.ext Ew3c
    replace B_AT_0 := cell_ext B_AT_0 Ew3c
    replace B_AT_1 := cell_ext B_AT_1 Ew3c
    replace B_AT_2 := cell_ext B_AT_2 Ew3c
    replace B_AT_3 := cell_ext B_AT_3 Ew3c
    have Sw3 : w2.heap.size ≤ w3.heap.size := by have := Ew3.size; (try simp at this); omega
    replace X := X.trans Ew3c
    clear Ew3 Ew3c
    clear O_tT
    go_wp2_with fail
    refine (toTwo_c _ d_T _ (twoC.vext H_T.out (X)) (by first | omega | exact sz_T)).mono ?_
    rintro e w4 ⟨u_xT, v_xT, p_xT, q_xT, rfl, Ew4, O_xT⟩
    replace O_xT := O_xT.wide (lo' := w3.heap.size) (hi' := w4.heap.size) (by simp) (Nat.le_refl _)
    have Ew4c : Ext w3 w4 := Ew4
    replace B_AT_0 := cell_ext B_AT_0 Ew4c
    replace B_AT_1 := cell_ext B_AT_1 Ew4c
    replace B_AT_2 := cell_ext B_AT_2 Ew4c
    replace B_AT_3 := cell_ext B_AT_3 Ew4c
    have Sw4 : w3.heap.size ≤ w4.heap.size := by have := Ew4.size; (try simp at this); omega
    replace X := X.trans Ew4c
    clear Ew4 Ew4c
    obtain ⟨⟨⟨b_xT, c_xT, rfl⟩, bb_xT, cc_xT, rfl⟩, ⟨bp_xT, cp_xT, rfl⟩, bq_xT, cq_xT, rfl⟩ := two_take O_xT
    have N_AT_0 : (W.heap.size) < w4.heap.size := by omega
    go_wp2_with fail
    refine (implEqualIn_c _ _ _ (O_xT.ext (Ext.pAlloc (Ext.refl _) _)).view).mono ?_
    rintro e w5 ⟨rfl, Ew5⟩
    have Ew5c : Ext w4 w5 := Ext.trans (Ext.pAlloc (Ext.refl _) _) Ew5
    replace O_xT := O_xT.ext Ew5c
    replace B_AT_0 := cell_ext B_AT_0 Ew5c
    replace B_AT_1 := cell_ext B_AT_1 Ew5c
    replace B_AT_2 := cell_ext B_AT_2 Ew5c
    replace B_AT_3 := cell_ext B_AT_3 Ew5c
    have B_xT_0 : w5.cell? ⟨(w4.heap.size), 0, none⟩ = some (.slice b_xT (d_T).1.1.length c_xT) := cell_ext (by simp [go_sem]) Ew5
    have B_xT_1 : w5.cell? ⟨(w4.heap.size), 1, none⟩ = some (.slice bb_xT (d_T).1.2.length cc_xT) := cell_ext (by simp [go_sem]) Ew5
    have B_xT_2 : w5.cell? ⟨(w4.heap.size), 2, none⟩ = some (.slice bp_xT (d_T).2.1.length cp_xT) := cell_ext (by simp [go_sem]) Ew5
    have B_xT_3 : w5.cell? ⟨(w4.heap.size), 3, none⟩ = some (.slice bq_xT (d_T).2.2.length cq_xT) := cell_ext (by simp [go_sem]) Ew5
    have Sw5 : w4.heap.size + 1 ≤ w5.heap.size := by have := Ew5.size; (try simp at this); omega
    replace X := X.trans Ew5c
    clear Ew5 Ew5c
    go_wp2
    go_region_held3 (fun ω => ω.cell? ⟨(w4.heap.size), 0, none⟩ = some (.slice b_xT (d_T).1.1.length c_xT) ∧ ω.cell? ⟨(w4.heap.size), 1, none⟩ = some (.slice bb_xT (d_T).1.2.length cc_xT) ∧ ω.cell? ⟨(w4.heap.size), 2, none⟩ = some (.slice bp_xT (d_T).2.1.length cp_xT) ∧ ω.cell? ⟨(w4.heap.size), 3, none⟩ = some (.slice bq_xT (d_T).2.2.length cq_xT) ∧ ω.cell? ⟨(W.heap.size), 0, none⟩ = some (u_T) ∧ ω.cell? ⟨(W.heap.size), 1, none⟩ = some (v_T) ∧ ω.cell? ⟨(W.heap.size), 2, none⟩ = some (p_T) ∧ ω.cell? ⟨(W.heap.size), 3, none⟩ = some (q_T) ∧ Ext w5 ω)
      ((refine ⟨cell_ext B_xT_0 ?_, cell_ext B_xT_1 ?_, cell_ext B_xT_2 ?_, cell_ext B_xT_3 ?_, cell_ext B_AT_0 ?_, cell_ext B_AT_1 ?_, cell_ext B_AT_2 ?_, cell_ext B_AT_3 ?_, ?_⟩ <;> (repeat (first | with_reducible exact Ext.refl _ | with_reducible assumption | with_reducible refine Ext.pAlloc ?_ _ | ((with_reducible refine Ext.pSet ?_ ?_ _); rotate_left; (simp <;> omega)) | with_reducible refine Ext.pDrew ?_ | with_reducible refine Ext.pDrewN ?_ _ | with_reducible refine Ext.trans ?_ (by with_reducible assumption)))))
      ((first
        | (go_at_call 13; refine (toTwo_c _ d_T _ (twoC.vext H_T.out (by repeat (first | with_reducible exact Ext.refl _ | with_reducible assumption | with_reducible refine Ext.pAlloc ?_ _ | ((with_reducible refine Ext.pSet ?_ ?_ _); rotate_left; (simp <;> omega)) | with_reducible refine Ext.pDrew ?_ | with_reducible refine Ext.pDrewN ?_ _ | with_reducible refine Ext.trans ?_ (by with_reducible assumption)))) (by omega)).mono ?_; rintro e w6 ⟨u_yT, v_yT, p_yT, q_yT, rfl, Ew6, O_yT⟩; obtain ⟨⟨⟨b_yT, c_yT, rfl⟩, bb_yT, cc_yT, rfl⟩, ⟨bp_yT, cp_yT, rfl⟩, bq_yT, cq_yT, rfl⟩ := two_take O_yT)
        | (go_at_call 15; refine (eqTwo_c _ _ d_T d_T _ (twoC.vext O_xT.view (by repeat (first | with_reducible exact Ext.refl _ | with_reducible assumption | with_reducible refine Ext.pAlloc ?_ _ | ((with_reducible refine Ext.pSet ?_ ?_ _); rotate_left; (simp <;> omega)) | with_reducible refine Ext.pDrew ?_ | with_reducible refine Ext.pDrewN ?_ _ | with_reducible refine Ext.trans ?_ (by with_reducible assumption)))) O_yT.view).mono ?_; rintro e w7 ⟨rfl, Ew7⟩)))
    have Ew7r : Ext w5 w7 := (Ext.drew _).trans (Ew6.trans Ew7)
    clear Ew6 Ew7 O_yT
    have Ew7rc : Ext w5 w7 := Ew7r
    replace O_xT := O_xT.ext Ew7rc
    replace B_AT_0 := cell_ext B_AT_0 Ew7rc
    replace B_AT_1 := cell_ext B_AT_1 Ew7rc
    replace B_AT_2 := cell_ext B_AT_2 Ew7rc
    replace B_AT_3 := cell_ext B_AT_3 Ew7rc
    replace B_xT_0 := cell_ext B_xT_0 Ew7rc
    replace B_xT_1 := cell_ext B_xT_1 Ew7rc
    replace B_xT_2 := cell_ext B_xT_2 Ew7rc
    replace B_xT_3 := cell_ext B_xT_3 Ew7rc
    have Sw7 : w5.heap.size ≤ w7.heap.size := by have := Ew7r.size; (try simp at this); omega
    replace X := X.trans Ew7rc
    clear Ew7r Ew7rc
    go_wp2
    go_ret
    exact ⟨rfl, X⟩

set_option maxRecDepth 100000 in
theorem exactequalin_holds : Rows.FnExactEqualInSaid :=
  OpenClaim.holds_of_wide 3 Try.f3 rfl rfl rfl rfl rfl rfl rfl ⟨rfl, rfl, rfl, rfl, rfl⟩ rfl rfl rfl rfl rfl (by kernel_rfl) Try.func3 (by kernel_rfl)
    (of_decide_eq_true (by kernel_rfl)) (by unfold Func.isWrapper; rw [if_neg (of_decide_eq_false (by kernel_rfl))]; exact ⟨rfl, rfl⟩)
    (fun os started H enc _ => law_lifted (C := Try.checked) (f := 3) (fn := Try.f3) (s := Rows.fnExactEqualInSpec) (tb := 4) Try.own started (by kernel_rfl) Try.func3 Try.laidOut (of_decide_eq_true (by kernel_rfl)) rfl Try.underlying4 rfl
      (fun ds h => by match ds, h with | [_], _ => exact ⟨rfl, rfl, rfl⟩)
      (ChangeSpec.witness6 (enc := enc) (C := Try.checked) false ⟨#[], #[.agg #[.slice none 0 0, .slice none 0 0, .slice none 0 0, .slice none 0 0]], []⟩ 8 (by kernel_rfl) (by kernel_rfl) (by kernel_rfl) (by kernel_rfl))
      exactequalin_c)

end Go.Proofs.Ytbapomhoipdanaa
