/- The law FnExactBothFallen is true for every input: it returns true, and what it was given reads as before. -/
import Derived.Test.YtbapomhoipdanaaTied
import Derived.Test.YtbapomhoipdanaaBf2
set_option linter.unusedVariables false
set_option linter.unusedSimpArgs false
namespace Go.Proofs.Ytbapomhoipdanaa
open Go.RowKit Go.Sl

set_option maxRecDepth 100000 in
theorem tiedRows : Tied Try.prog rowsC 22 := Tied.slice Try.underlying22 rfl (by decide) tiedRow
set_option maxRecDepth 100000 in
theorem tiedWrite : Tied Try.prog writeC 109 := Tied.struct2 Try.underlying109 ⟨rfl, rfl⟩ rfl rfl rfl (Tied.int Try.underlying2) tiedRow
set_option maxRecDepth 100000 in
theorem tiedWait : Tied Try.prog waitC 23 := Tied.slice Try.underlying23 rfl (by decide) tiedWrite
set_option maxRecDepth 100000 in
theorem tiedDisk : Tied Try.prog diskC 25 := Tied.struct2 Try.underlying25 ⟨rfl, rfl⟩ rfl rfl rfl tiedRows tiedWait
theorem wcnt_wsz (l : List WriteD) : cntL wcnt l = l.length + cntL wsz l := by
  induction l with
  | nil => rfl
  | cons x l ih => simp only [cntL, ih, List.length_cons, wcnt, wsz]; omega
theorem szDisk_small (m : DiskD) (q : Int) (h0 : -1 ≤ q) (h1 : q ≤ 1048576) : (-1 ≤ szI (dsz m) q ∧ szI (dsz m) q ≤ 1048576) ∧ (¬ szI (dsz m) q < 0 → dsmall m ∧ dcnt m ≤ 1048576) := by
  obtain ⟨h2, h3⟩ := dsz_small m q h0 h1
  refine ⟨h2, fun h => ⟨h3 h, ?_⟩⟩
  unfold szI at h
  unfold dcnt
  rw [wcnt_wsz]
  unfold dsz at h
  split at h <;> omega
theorem disk_take {lo hi : Nat} {w : World} {u v : Value} {m : DiskD} (h : diskC.own lo hi w [u, v] m) : (∃ a c, u = .slice a m.1.length c) ∧ ∃ a c, v = .slice a m.2.length c := by
  obtain ⟨u', v', e, hu, hv⟩ := disk_V.1 h.view
  cases e
  exact ⟨sl_form hu, sl_form hv⟩

set_option maxRecDepth 100000 in
theorem tiedTwo : Tied Try.prog twoC 27 := Tied.struct2 Try.underlying27 ⟨rfl, rfl⟩ rfl rfl rfl tiedDisk tiedDisk
theorem szTwo_small (m : TwoD) (q : Int) (h0 : -1 ≤ q) (h1 : q ≤ 1048576) : (-1 ≤ szI (tsz m) q ∧ szI (tsz m) q ≤ 1048576) ∧ (¬ szI (tsz m) q < 0 → tsmall m ∧ tcnt m ≤ 1048576) := by
  have e : ∀ (n : Nat), -1 ≤ szI n q ∧ szI n q ≤ 1048576 := fun n => by unfold szI; split <;> constructor <;> omega
  refine ⟨e _, fun h => ?_⟩
  have hq : (tsz m : Int) ≤ q := by
    unfold szI at h
    split at h <;> omega
  unfold tsz at hq
  have a := szDisk_small m.1 1048576 (by omega) (by omega)
  have b := szDisk_small m.2 1048576 (by omega) (by omega)
  have a' : ¬ szI (dsz m.1) 1048576 < 0 := by unfold szI; rw [if_neg (by omega)]; omega
  have b' : ¬ szI (dsz m.2) 1048576 < 0 := by unfold szI; rw [if_neg (by omega)]; omega
  have hc : ∀ d : DiskD, dcnt d ≤ dsz d := fun d => by unfold dcnt dsz; rw [wcnt_wsz]; omega
  have h1 := hc m.1
  have h2 := hc m.2
  exact ⟨⟨(a.2 a').1, (b.2 b').1⟩, by unfold tcnt; omega⟩
theorem two_take {lo hi : Nat} {w : World} {u v p q : Value} {m : TwoD} (h : twoC.own lo hi w [u, v, p, q] m) : ((∃ a c, u = .slice a m.1.1.length c) ∧ ∃ a c, v = .slice a m.1.2.length c) ∧ (∃ a c, p = .slice a m.2.1.length c) ∧ ∃ a c, q = .slice a m.2.2.length c := by
  obtain ⟨u', v', p', q', e, hu, hv⟩ := two_V.1 h.view
  cases e
  exact ⟨disk_forms hu, disk_forms hv⟩

theorem cntL_le {α : Type} (cnt : α → Nat) (m : Nat) (l : List α) (h : ∀ x ∈ l, cnt x ≤ m) : cntL cnt l ≤ l.length * m := by
  induction l with
  | nil => simp [cntL]
  | cons x l ih =>
    have h1 := h x (by simp)
    have h2 := ih (fun y hy => h y (by simp [hy]))
    simp only [cntL, List.length_cons, Nat.add_mul]; omega
theorem disk_cnt (d : DiskD) (h1 : ∀ x ∈ d.1, x.length ≤ 48) (h2 : ∀ x ∈ d.2, x.2.length ≤ 48) (h3 : d.1.length ≤ 40) (h4 : d.2.length ≤ 60) : dcnt d ≤ 4860 := by
  have a := cntL_le rcnt 48 d.1 (fun x hx => h1 x hx)
  have b := cntL_le wcnt 49 d.2 (fun x hx => by have := h2 x hx; unfold wcnt; omega)
  unfold dcnt
  omega
theorem fallD_cnt (f : Nat → Int) (d : DiskD) (h : diskOk d = true) : dcnt (fallD f d) ≤ 8192 := by
  obtain ⟨rs, ws⟩ := d
  obtain ⟨h1, h2, _, h3, h4⟩ := diskOk_parts h
  refine Nat.le_trans (disk_cnt _ (fun x hx => rowOk_len (fallK_ok h1 (fun y hy => (h2 y hy).2) _ x hx)) (fun x hx => by cases hx) ?_ (by simp [fallD])) (by omega)
  simp only [fallD, fallK_len]; exact h3
theorem fallen_cnt (d : DiskD) (fates : List Int) : dcnt (fallen d fates) ≤ 8192 := by
  unfold fallen
  split
  · rename_i h; exact fallD_cnt _ _ h
  · decide

theorem bothFallen_cnt (t : TwoD) (fates : List Int) : tcnt (bothFallen t fates) ≤ 16384 := by
  unfold bothFallen
  split
  · have a := fallen_cnt t.1 (altK 0 fates fates.length)
    have b := fallen_cnt t.2 (altK 1 fates fates.length)
    unfold tcnt
    dsimp only
    omega
  · decide

set_option maxHeartbeats 4000000 in
set_option maxRecDepth 100000 in
theorem exactbothfallen_c (W : World) (args : Array Value) (hs : args.size = 2) (h : ∀ (j : Nat) t v, Try.f7.params[j]? = some t → args[j]? = some v → ArgOk Try.prog W t v) :
    Calls Try.prog 7 args W fun e W' => e = .returned (.bool true) ∧ Ext W W' := by
  match args, hs with
  | ⟨[a0, a1]⟩, _ =>
    obtain ⟨cs_T, d_T, rfl, H_T'⟩ := (h 0 _ a0 rfl rfl).struct Try.underlying27 tiedTwo
    have H_T : Hid (twoC.V W cs_T d_T) := H_T'
    obtain ⟨u_T, v_T, p_T, q_T, rfl, _⟩ := two_V.1 H_T'; clear H_T'
    obtain ⟨d_Fates, H_Fates'⟩ := (h 1 _ a1 rfl rfl).slice (R := intC) Try.underlying44 tiedRow
    have H_Fates : Hid (rowC.V W [a1] d_Fates) := H_Fates'
    obtain ⟨s_Fates, c_Fates, rfl, l_Fates, m_Fates⟩ := row_len H_Fates'; clear H_Fates'
    clear h
    have bnd := bothFallen_cnt d_T d_Fates
    by_cases small_Fates : (d_Fates).length ≤ 1048576
    rotate_left
    · go_enter Try.func7, Try.ntmps7
      go_wp2
      go_ret
      exact ⟨rfl, by repeat (first | with_reducible exact Ext.refl _ | with_reducible assumption | with_reducible refine Ext.pAlloc ?_ _ | ((with_reducible refine Ext.pSet ?_ ?_ _); rotate_left; (simp <;> omega)) | with_reducible refine Ext.pDrew ?_ | with_reducible refine Ext.pDrewN ?_ _ | with_reducible refine Ext.trans ?_ (by with_reducible assumption))⟩
    have sz_T := szTwo_small d_T 1048576 (by omega) (by omega)
    by_cases neg_T : szI (tsz d_T) 1048576 < 0
    · go_enter Try.func7, Try.ntmps7
      have X : Ext W W := Ext.refl W
      go_wp2_with fail
      refine (szTwo_c _ d_T _ _ (twoC.vext H_T.out (Ext.pAlloc (X) _)) (by omega) (by omega)).mono ?_
      rintro e w1 ⟨rfl, Ew1⟩
      have Ew1c : Ext W w1 := Ext.trans (Ext.pAlloc (Ext.refl _) _) Ew1
      have B_AT_0 : w1.cell? ⟨(W.heap.size), 0, none⟩ = some (u_T) := cell_ext (by simp [go_sem]) Ew1
      have B_AT_1 : w1.cell? ⟨(W.heap.size), 1, none⟩ = some (v_T) := cell_ext (by simp [go_sem]) Ew1
      have B_AT_2 : w1.cell? ⟨(W.heap.size), 2, none⟩ = some (p_T) := cell_ext (by simp [go_sem]) Ew1
      have B_AT_3 : w1.cell? ⟨(W.heap.size), 3, none⟩ = some (q_T) := cell_ext (by simp [go_sem]) Ew1
      have Sw1 : W.heap.size + 1 ≤ w1.heap.size := by have := Ew1.size; (try simp at this); omega
      replace X := X.trans Ew1c
      clear Ew1 Ew1c
      go_wp2
      go_ret
      exact ⟨rfl, by first | exact X | (repeat (first | with_reducible exact Ext.refl _ | with_reducible assumption | with_reducible refine Ext.pAlloc ?_ _ | ((with_reducible refine Ext.pSet ?_ ?_ _); rotate_left; (simp <;> omega)) | with_reducible refine Ext.pDrew ?_ | with_reducible refine Ext.pDrewN ?_ _ | with_reducible refine Ext.trans ?_ (by with_reducible assumption)))⟩
    replace sz_T := sz_T.2 neg_T
    have szc_T := sz_T.2
    replace sz_T := sz_T.1
    go_enter Try.func7, Try.ntmps7
    have X : Ext W W := Ext.refl W
    go_wp2_with fail
    refine (szTwo_c _ d_T _ _ (twoC.vext H_T.out (Ext.pAlloc (X) _)) (by omega) (by omega)).mono ?_
    rintro e w1 ⟨rfl, Ew1⟩
    have Ew1c : Ext W w1 := Ext.trans (Ext.pAlloc (Ext.refl _) _) Ew1
    have B_AT_0 : w1.cell? ⟨(W.heap.size), 0, none⟩ = some (u_T) := cell_ext (by simp [go_sem]) Ew1
    have B_AT_1 : w1.cell? ⟨(W.heap.size), 1, none⟩ = some (v_T) := cell_ext (by simp [go_sem]) Ew1
    have B_AT_2 : w1.cell? ⟨(W.heap.size), 2, none⟩ = some (p_T) := cell_ext (by simp [go_sem]) Ew1
    have B_AT_3 : w1.cell? ⟨(W.heap.size), 3, none⟩ = some (q_T) := cell_ext (by simp [go_sem]) Ew1
    have Sw1 : W.heap.size + 1 ≤ w1.heap.size := by have := Ew1.size; (try simp at this); omega
    replace X := X.trans Ew1c
    clear Ew1 Ew1c
    go_wp2_with fail
    refine (toTwo_c _ d_T _ (twoC.vext H_T.out (X)) (by first | omega | exact sz_T)).mono ?_
    rintro e w2 ⟨u_tT, v_tT, p_tT, q_tT, rfl, Ew2, O_tT⟩
    replace O_tT := O_tT.wide (lo' := w1.heap.size) (hi' := w2.heap.size) (by simp) (Nat.le_refl _)
    have Ew2c : Ext w1 w2 := Ew2
    replace B_AT_0 := cell_ext B_AT_0 Ew2c
    replace B_AT_1 := cell_ext B_AT_1 Ew2c
    replace B_AT_2 := cell_ext B_AT_2 Ew2c
    replace B_AT_3 := cell_ext B_AT_3 Ew2c
    have Sw2 : w1.heap.size ≤ w2.heap.size := by have := Ew2.size; (try simp at this); omega
    replace X := X.trans Ew2c
    clear Ew2 Ew2c
    obtain ⟨⟨⟨b_tT, c_tT, rfl⟩, bb_tT, cc_tT, rfl⟩, ⟨bp_tT, cp_tT, rfl⟩, bq_tT, cq_tT, rfl⟩ := two_take O_tT
    go_wp2_with fail
    refine (toInt64S_c _ d_Fates _ (rowC.vext H_Fates.out (X)) (by first | omega | exact sz_Fates)).mono ?_
    rintro e w3 ⟨v_tFates, rfl, Ew3, O_tFates⟩
    replace O_tFates := O_tFates.wide (lo' := w2.heap.size) (hi' := w3.heap.size) (by simp) (Nat.le_refl _)
    have Ew3c : Ext w2 w3 := Ew3
    replace O_tT := O_tT.ext Ew3c
    replace B_AT_0 := cell_ext B_AT_0 Ew3c
    replace B_AT_1 := cell_ext B_AT_1 Ew3c
    replace B_AT_2 := cell_ext B_AT_2 Ew3c
    replace B_AT_3 := cell_ext B_AT_3 Ew3c
    have Sw3 : w2.heap.size ≤ w3.heap.size := by have := Ew3.size; (try simp at this); omega
    replace X := X.trans Ew3c
    clear Ew3 Ew3c
    go_wp2_with fail
    refine (specBothFallen_c _ _ _ _ _ O_tT.view O_tFates.view (by omega)).mono ?_
    rintro e w4 ⟨u_w0r0, v_w0r0, p_w0r0, q_w0r0, rfl, Ew4, O_w0r0⟩
    replace O_w0r0 := O_w0r0.wide (lo' := w3.heap.size) (hi' := w4.heap.size) (by simp) (Nat.le_refl _)
    have Ew4c : Ext w3 w4 := Ew4
    replace O_tT := O_tT.ext Ew4c
    replace O_tFates := O_tFates.ext Ew4c
    replace B_AT_0 := cell_ext B_AT_0 Ew4c
    replace B_AT_1 := cell_ext B_AT_1 Ew4c
    replace B_AT_2 := cell_ext B_AT_2 Ew4c
    replace B_AT_3 := cell_ext B_AT_3 Ew4c
    have Sw4 : w3.heap.size ≤ w4.heap.size := by have := Ew4.size; (try simp at this); omega
    replace X := X.trans Ew4c
    clear Ew4 Ew4c
    obtain ⟨⟨⟨b_w0r0, c_w0r0, rfl⟩, bb_w0r0, cc_w0r0, rfl⟩, ⟨bp_w0r0, cp_w0r0, rfl⟩, bq_w0r0, cq_w0r0, rfl⟩ := two_take O_w0r0
    clear O_tT
    clear O_tFates
    have N_AT_0 : (W.heap.size) < w4.heap.size := by omega
    go_wp2_with fail
    refine (toTwo_c _ d_T _ (twoC.vext H_T.out (Ext.pAlloc (X) _)) (by first | omega | exact sz_T)).mono ?_
    rintro e w5 ⟨u_xT, v_xT, p_xT, q_xT, rfl, Ew5, O_xT⟩
    replace O_xT := O_xT.wide (lo' := w4.heap.size + 1) (hi' := w5.heap.size) (by simp) (Nat.le_refl _)
    have Ew5c : Ext w4 w5 := Ext.trans (Ext.pAlloc (Ext.refl _) _) Ew5
    replace O_w0r0 := O_w0r0.ext Ew5c
    replace B_AT_0 := cell_ext B_AT_0 Ew5c
    replace B_AT_1 := cell_ext B_AT_1 Ew5c
    replace B_AT_2 := cell_ext B_AT_2 Ew5c
    replace B_AT_3 := cell_ext B_AT_3 Ew5c
    have B_w0r0_0 : w5.cell? ⟨(w4.heap.size), 0, none⟩ = some (.slice b_w0r0 (bothFallen d_T d_Fates).1.1.length c_w0r0) := cell_ext (by simp [go_sem]) Ew5
    have B_w0r0_1 : w5.cell? ⟨(w4.heap.size), 1, none⟩ = some (.slice bb_w0r0 (bothFallen d_T d_Fates).1.2.length cc_w0r0) := cell_ext (by simp [go_sem]) Ew5
    have B_w0r0_2 : w5.cell? ⟨(w4.heap.size), 2, none⟩ = some (.slice bp_w0r0 (bothFallen d_T d_Fates).2.1.length cp_w0r0) := cell_ext (by simp [go_sem]) Ew5
    have B_w0r0_3 : w5.cell? ⟨(w4.heap.size), 3, none⟩ = some (.slice bq_w0r0 (bothFallen d_T d_Fates).2.2.length cq_w0r0) := cell_ext (by simp [go_sem]) Ew5
    have Sw5 : w4.heap.size + 1 ≤ w5.heap.size := by have := Ew5.size; (try simp at this); omega
    replace X := X.trans Ew5c
    clear Ew5 Ew5c
    obtain ⟨⟨⟨b_xT, c_xT, rfl⟩, bb_xT, cc_xT, rfl⟩, ⟨bp_xT, cp_xT, rfl⟩, bq_xT, cq_xT, rfl⟩ := two_take O_xT
    have N_AT_0 : (W.heap.size) < w5.heap.size := by omega
    have N_w0r0_0 : (w4.heap.size) < w5.heap.size := by omega
    go_wp2_with fail
    refine (toInt64S_c _ d_Fates _ (rowC.vext H_Fates.out (Ext.pAlloc (X) _)) (by first | omega | exact sz_Fates)).mono ?_
    rintro e w6 ⟨v_xFates, rfl, Ew6, O_xFates⟩
    replace O_xFates := O_xFates.wide (lo' := w5.heap.size + 1) (hi' := w6.heap.size) (by simp) (Nat.le_refl _)
    have Ew6c : Ext w5 w6 := Ext.trans (Ext.pAlloc (Ext.refl _) _) Ew6
    replace O_w0r0 := O_w0r0.ext Ew6c
    replace O_xT := O_xT.ext Ew6c
    replace B_AT_0 := cell_ext B_AT_0 Ew6c
    replace B_AT_1 := cell_ext B_AT_1 Ew6c
    replace B_AT_2 := cell_ext B_AT_2 Ew6c
    replace B_AT_3 := cell_ext B_AT_3 Ew6c
    replace B_w0r0_0 := cell_ext B_w0r0_0 Ew6c
    replace B_w0r0_1 := cell_ext B_w0r0_1 Ew6c
    replace B_w0r0_2 := cell_ext B_w0r0_2 Ew6c
    replace B_w0r0_3 := cell_ext B_w0r0_3 Ew6c
    have B_xT_0 : w6.cell? ⟨(w5.heap.size), 0, none⟩ = some (.slice b_xT (d_T).1.1.length c_xT) := cell_ext (by simp [go_sem]) Ew6
    have B_xT_1 : w6.cell? ⟨(w5.heap.size), 1, none⟩ = some (.slice bb_xT (d_T).1.2.length cc_xT) := cell_ext (by simp [go_sem]) Ew6
    have B_xT_2 : w6.cell? ⟨(w5.heap.size), 2, none⟩ = some (.slice bp_xT (d_T).2.1.length cp_xT) := cell_ext (by simp [go_sem]) Ew6
    have B_xT_3 : w6.cell? ⟨(w5.heap.size), 3, none⟩ = some (.slice bq_xT (d_T).2.2.length cq_xT) := cell_ext (by simp [go_sem]) Ew6
    have Sw6 : w5.heap.size + 1 ≤ w6.heap.size := by have := Ew6.size; (try simp at this); omega
    replace X := X.trans Ew6c
    clear Ew6 Ew6c
    go_wp2_with fail
    refine (implBothFallen_c _ _ _ _ _ O_xT.view O_xFates.view (by omega)).mono ?_
    rintro e w7 ⟨u_g0r0, v_g0r0, p_g0r0, q_g0r0, rfl, Ew7, O_g0r0⟩
    replace O_g0r0 := O_g0r0.wide (lo' := w6.heap.size) (hi' := w7.heap.size) (by simp) (Nat.le_refl _)
    have Ew7c : Ext w6 w7 := Ew7
    replace O_w0r0 := O_w0r0.ext Ew7c
    replace O_xT := O_xT.ext Ew7c
    replace O_xFates := O_xFates.ext Ew7c
    replace B_AT_0 := cell_ext B_AT_0 Ew7c
    replace B_AT_1 := cell_ext B_AT_1 Ew7c
    replace B_AT_2 := cell_ext B_AT_2 Ew7c
    replace B_AT_3 := cell_ext B_AT_3 Ew7c
    replace B_w0r0_0 := cell_ext B_w0r0_0 Ew7c
    replace B_w0r0_1 := cell_ext B_w0r0_1 Ew7c
    replace B_w0r0_2 := cell_ext B_w0r0_2 Ew7c
    replace B_w0r0_3 := cell_ext B_w0r0_3 Ew7c
    replace B_xT_0 := cell_ext B_xT_0 Ew7c
    replace B_xT_1 := cell_ext B_xT_1 Ew7c
    replace B_xT_2 := cell_ext B_xT_2 Ew7c
    replace B_xT_3 := cell_ext B_xT_3 Ew7c
    have Sw7 : w6.heap.size ≤ w7.heap.size := by have := Ew7.size; (try simp at this); omega
    replace X := X.trans Ew7c
    clear Ew7 Ew7c
    obtain ⟨⟨⟨b_g0r0, c_g0r0, rfl⟩, bb_g0r0, cc_g0r0, rfl⟩, ⟨bp_g0r0, cp_g0r0, rfl⟩, bq_g0r0, cq_g0r0, rfl⟩ := two_take O_g0r0
    have N_AT_0 : (W.heap.size) < w7.heap.size := by omega
    have N_w0r0_0 : (w4.heap.size) < w7.heap.size := by omega
    have N_xT_0 : (w5.heap.size) < w7.heap.size := by omega
    go_wp2_with fail
    refine (eqTwo_c _ _ _ _ _ (O_g0r0.ext (Ext.pAlloc (Ext.refl _) _)).view (O_w0r0.ext (Ext.pAlloc (Ext.refl _) _)).view).mono ?_
    rintro e w8 ⟨rfl, Ew8⟩
    have Ew8c : Ext w7 w8 := Ext.trans (Ext.pAlloc (Ext.refl _) _) Ew8
    replace O_w0r0 := O_w0r0.ext Ew8c
    replace O_xT := O_xT.ext Ew8c
    replace O_xFates := O_xFates.ext Ew8c
    replace O_g0r0 := O_g0r0.ext Ew8c
    replace B_AT_0 := cell_ext B_AT_0 Ew8c
    replace B_AT_1 := cell_ext B_AT_1 Ew8c
    replace B_AT_2 := cell_ext B_AT_2 Ew8c
    replace B_AT_3 := cell_ext B_AT_3 Ew8c
    replace B_w0r0_0 := cell_ext B_w0r0_0 Ew8c
    replace B_w0r0_1 := cell_ext B_w0r0_1 Ew8c
    replace B_w0r0_2 := cell_ext B_w0r0_2 Ew8c
    replace B_w0r0_3 := cell_ext B_w0r0_3 Ew8c
    replace B_xT_0 := cell_ext B_xT_0 Ew8c
    replace B_xT_1 := cell_ext B_xT_1 Ew8c
    replace B_xT_2 := cell_ext B_xT_2 Ew8c
    replace B_xT_3 := cell_ext B_xT_3 Ew8c
    have B_g0r0_0 : w8.cell? ⟨(w7.heap.size), 0, none⟩ = some (.slice b_g0r0 (bothFallen d_T d_Fates).1.1.length c_g0r0) := cell_ext (by simp [go_sem]) Ew8
    have B_g0r0_1 : w8.cell? ⟨(w7.heap.size), 1, none⟩ = some (.slice bb_g0r0 (bothFallen d_T d_Fates).1.2.length cc_g0r0) := cell_ext (by simp [go_sem]) Ew8
    have B_g0r0_2 : w8.cell? ⟨(w7.heap.size), 2, none⟩ = some (.slice bp_g0r0 (bothFallen d_T d_Fates).2.1.length cp_g0r0) := cell_ext (by simp [go_sem]) Ew8
    have B_g0r0_3 : w8.cell? ⟨(w7.heap.size), 3, none⟩ = some (.slice bq_g0r0 (bothFallen d_T d_Fates).2.2.length cq_g0r0) := cell_ext (by simp [go_sem]) Ew8
    have Sw8 : w7.heap.size + 1 ≤ w8.heap.size := by have := Ew8.size; (try simp at this); omega
    replace X := X.trans Ew8c
    clear Ew8 Ew8c
    go_wp2
    go_region_held3 (fun ω => ω.cell? ⟨(w5.heap.size), 0, none⟩ = some (.slice b_xT (d_T).1.1.length c_xT) ∧ ω.cell? ⟨(w5.heap.size), 1, none⟩ = some (.slice bb_xT (d_T).1.2.length cc_xT) ∧ ω.cell? ⟨(w5.heap.size), 2, none⟩ = some (.slice bp_xT (d_T).2.1.length cp_xT) ∧ ω.cell? ⟨(w5.heap.size), 3, none⟩ = some (.slice bq_xT (d_T).2.2.length cq_xT) ∧ ω.cell? ⟨(W.heap.size), 0, none⟩ = some (u_T) ∧ ω.cell? ⟨(W.heap.size), 1, none⟩ = some (v_T) ∧ ω.cell? ⟨(W.heap.size), 2, none⟩ = some (p_T) ∧ ω.cell? ⟨(W.heap.size), 3, none⟩ = some (q_T) ∧ Ext w8 ω)
      ((refine ⟨cell_ext B_xT_0 ?_, cell_ext B_xT_1 ?_, cell_ext B_xT_2 ?_, cell_ext B_xT_3 ?_, cell_ext B_AT_0 ?_, cell_ext B_AT_1 ?_, cell_ext B_AT_2 ?_, cell_ext B_AT_3 ?_, ?_⟩ <;> (repeat (first | with_reducible exact Ext.refl _ | with_reducible assumption | with_reducible refine Ext.pAlloc ?_ _ | ((with_reducible refine Ext.pSet ?_ ?_ _); rotate_left; (simp <;> omega)) | with_reducible refine Ext.pDrew ?_ | with_reducible refine Ext.pDrewN ?_ _ | with_reducible refine Ext.trans ?_ (by with_reducible assumption)))))
      ((first
        | (go_at_call 13; refine (toTwo_c _ d_T _ (twoC.vext H_T.out (by repeat (first | with_reducible exact Ext.refl _ | with_reducible assumption | with_reducible refine Ext.pAlloc ?_ _ | ((with_reducible refine Ext.pSet ?_ ?_ _); rotate_left; (simp <;> omega)) | with_reducible refine Ext.pDrew ?_ | with_reducible refine Ext.pDrewN ?_ _ | with_reducible refine Ext.trans ?_ (by with_reducible assumption)))) (by omega)).mono ?_; rintro e w9 ⟨u_yT, v_yT, p_yT, q_yT, rfl, Ew9, O_yT⟩; obtain ⟨⟨⟨b_yT, c_yT, rfl⟩, bb_yT, cc_yT, rfl⟩, ⟨bp_yT, cp_yT, rfl⟩, bq_yT, cq_yT, rfl⟩ := two_take O_yT)
        | (go_at_call 15; refine (eqTwo_c _ _ d_T d_T _ (twoC.vext O_xT.view (by repeat (first | with_reducible exact Ext.refl _ | with_reducible assumption | with_reducible refine Ext.pAlloc ?_ _ | ((with_reducible refine Ext.pSet ?_ ?_ _); rotate_left; (simp <;> omega)) | with_reducible refine Ext.pDrew ?_ | with_reducible refine Ext.pDrewN ?_ _ | with_reducible refine Ext.trans ?_ (by with_reducible assumption)))) O_yT.view).mono ?_; rintro e w10 ⟨rfl, Ew10⟩)))
    have Ew10r : Ext w8 w10 := (Ext.drew _).trans (Ew9.trans Ew10)
    clear Ew9 Ew10 O_yT
    have Ew10rc : Ext w8 w10 := Ew10r
    replace O_w0r0 := O_w0r0.ext Ew10rc
    replace O_xT := O_xT.ext Ew10rc
    replace O_xFates := O_xFates.ext Ew10rc
    replace O_g0r0 := O_g0r0.ext Ew10rc
    replace B_AT_0 := cell_ext B_AT_0 Ew10rc
    replace B_AT_1 := cell_ext B_AT_1 Ew10rc
    replace B_AT_2 := cell_ext B_AT_2 Ew10rc
    replace B_AT_3 := cell_ext B_AT_3 Ew10rc
    replace B_w0r0_0 := cell_ext B_w0r0_0 Ew10rc
    replace B_w0r0_1 := cell_ext B_w0r0_1 Ew10rc
    replace B_w0r0_2 := cell_ext B_w0r0_2 Ew10rc
    replace B_w0r0_3 := cell_ext B_w0r0_3 Ew10rc
    replace B_xT_0 := cell_ext B_xT_0 Ew10rc
    replace B_xT_1 := cell_ext B_xT_1 Ew10rc
    replace B_xT_2 := cell_ext B_xT_2 Ew10rc
    replace B_xT_3 := cell_ext B_xT_3 Ew10rc
    replace B_g0r0_0 := cell_ext B_g0r0_0 Ew10rc
    replace B_g0r0_1 := cell_ext B_g0r0_1 Ew10rc
    replace B_g0r0_2 := cell_ext B_g0r0_2 Ew10rc
    replace B_g0r0_3 := cell_ext B_g0r0_3 Ew10rc
    have Sw10 : w8.heap.size ≤ w10.heap.size := by have := Ew10r.size; (try simp at this); omega
    replace X := X.trans Ew10rc
    clear Ew10r Ew10rc
    go_wp2_with fail
    refine (toInt64S_c _ d_Fates _ (rowC.vext H_Fates.out (X)) (by first | omega | exact sz_Fates)).mono ?_
    rintro e w11 ⟨v_yFates, rfl, Ew11, O_yFates⟩
    replace O_yFates := O_yFates.wide (lo' := w10.heap.size) (hi' := w11.heap.size) (by simp) (Nat.le_refl _)
    have Ew11c : Ext w10 w11 := Ew11
    replace O_w0r0 := O_w0r0.ext Ew11c
    replace O_xT := O_xT.ext Ew11c
    replace O_xFates := O_xFates.ext Ew11c
    replace O_g0r0 := O_g0r0.ext Ew11c
    replace B_AT_0 := cell_ext B_AT_0 Ew11c
    replace B_AT_1 := cell_ext B_AT_1 Ew11c
    replace B_AT_2 := cell_ext B_AT_2 Ew11c
    replace B_AT_3 := cell_ext B_AT_3 Ew11c
    replace B_w0r0_0 := cell_ext B_w0r0_0 Ew11c
    replace B_w0r0_1 := cell_ext B_w0r0_1 Ew11c
    replace B_w0r0_2 := cell_ext B_w0r0_2 Ew11c
    replace B_w0r0_3 := cell_ext B_w0r0_3 Ew11c
    replace B_xT_0 := cell_ext B_xT_0 Ew11c
    replace B_xT_1 := cell_ext B_xT_1 Ew11c
    replace B_xT_2 := cell_ext B_xT_2 Ew11c
    replace B_xT_3 := cell_ext B_xT_3 Ew11c
    replace B_g0r0_0 := cell_ext B_g0r0_0 Ew11c
    replace B_g0r0_1 := cell_ext B_g0r0_1 Ew11c
    replace B_g0r0_2 := cell_ext B_g0r0_2 Ew11c
    replace B_g0r0_3 := cell_ext B_g0r0_3 Ew11c
    have Sw11 : w10.heap.size ≤ w11.heap.size := by have := Ew11.size; (try simp at this); omega
    replace X := X.trans Ew11c
    clear Ew11 Ew11c
    go_wp2_with fail
    refine (eqInt64S_c _ _ _ _ _ O_xFates.view O_yFates.view).mono ?_
    rintro e w12 ⟨rfl, Ew12⟩
    have Ew12c : Ext w11 w12 := Ew12
    replace O_w0r0 := O_w0r0.ext Ew12c
    replace O_xT := O_xT.ext Ew12c
    replace O_xFates := O_xFates.ext Ew12c
    replace O_g0r0 := O_g0r0.ext Ew12c
    replace O_yFates := O_yFates.ext Ew12c
    replace B_AT_0 := cell_ext B_AT_0 Ew12c
    replace B_AT_1 := cell_ext B_AT_1 Ew12c
    replace B_AT_2 := cell_ext B_AT_2 Ew12c
    replace B_AT_3 := cell_ext B_AT_3 Ew12c
    replace B_w0r0_0 := cell_ext B_w0r0_0 Ew12c
    replace B_w0r0_1 := cell_ext B_w0r0_1 Ew12c
    replace B_w0r0_2 := cell_ext B_w0r0_2 Ew12c
    replace B_w0r0_3 := cell_ext B_w0r0_3 Ew12c
    replace B_xT_0 := cell_ext B_xT_0 Ew12c
    replace B_xT_1 := cell_ext B_xT_1 Ew12c
    replace B_xT_2 := cell_ext B_xT_2 Ew12c
    replace B_xT_3 := cell_ext B_xT_3 Ew12c
    replace B_g0r0_0 := cell_ext B_g0r0_0 Ew12c
    replace B_g0r0_1 := cell_ext B_g0r0_1 Ew12c
    replace B_g0r0_2 := cell_ext B_g0r0_2 Ew12c
    replace B_g0r0_3 := cell_ext B_g0r0_3 Ew12c
    have Sw12 : w11.heap.size ≤ w12.heap.size := by have := Ew12.size; (try simp at this); omega
    replace X := X.trans Ew12c
    clear Ew12 Ew12c
    clear O_yFates
    go_wp2_with fail
    refine (markTwo_c _ _ _ _ _ _ O_xT (by omega) (by omega)).mono ?_
    rintro e w13 ⟨rfl, Cw13, O_xT'⟩
    replace O_w0r0 := O_w0r0.chg Cw13 (by omega)
    replace O_xFates := O_xFates.chg Cw13 (by omega)
    replace O_g0r0 := O_g0r0.chg Cw13 (by omega)
    clear O_xT
    have O_xT := O_xT'
    clear O_xT'
    replace B_AT_0 := cell_chg B_AT_0 Cw13 (by omega)
    replace B_AT_1 := cell_chg B_AT_1 Cw13 (by omega)
    replace B_AT_2 := cell_chg B_AT_2 Cw13 (by omega)
    replace B_AT_3 := cell_chg B_AT_3 Cw13 (by omega)
    replace B_w0r0_0 := cell_chg B_w0r0_0 Cw13 (by omega)
    replace B_w0r0_1 := cell_chg B_w0r0_1 Cw13 (by omega)
    replace B_w0r0_2 := cell_chg B_w0r0_2 Cw13 (by omega)
    replace B_w0r0_3 := cell_chg B_w0r0_3 Cw13 (by omega)
    replace B_xT_0 := cell_chg B_xT_0 Cw13 (by omega)
    replace B_xT_1 := cell_chg B_xT_1 Cw13 (by omega)
    replace B_xT_2 := cell_chg B_xT_2 Cw13 (by omega)
    replace B_xT_3 := cell_chg B_xT_3 Cw13 (by omega)
    replace B_g0r0_0 := cell_chg B_g0r0_0 Cw13 (by omega)
    replace B_g0r0_1 := cell_chg B_g0r0_1 Cw13 (by omega)
    replace B_g0r0_2 := cell_chg B_g0r0_2 Cw13 (by omega)
    replace B_g0r0_3 := cell_chg B_g0r0_3 Cw13 (by omega)
    have Sw13 : w12.heap.size ≤ w13.heap.size := Cw13.size
    replace X := Chg.ext X Cw13 (by omega)
    clear Cw13
    go_wp2_with fail
    refine (markInt64S_c _ _ _ _ _ _ O_xFates (by omega) (by omega)).mono ?_
    rintro e w14 ⟨rfl, Cw14, Zw14, O_xFates'⟩
    replace O_w0r0 := O_w0r0.chg Cw14 (by omega)
    replace O_xT := O_xT.chg Cw14 (by omega)
    replace O_g0r0 := O_g0r0.chg Cw14 (by omega)
    clear O_xFates
    have O_xFates := O_xFates'
    clear O_xFates'
    replace B_AT_0 := cell_chg B_AT_0 Cw14 (by omega)
    replace B_AT_1 := cell_chg B_AT_1 Cw14 (by omega)
    replace B_AT_2 := cell_chg B_AT_2 Cw14 (by omega)
    replace B_AT_3 := cell_chg B_AT_3 Cw14 (by omega)
    replace B_w0r0_0 := cell_chg B_w0r0_0 Cw14 (by omega)
    replace B_w0r0_1 := cell_chg B_w0r0_1 Cw14 (by omega)
    replace B_w0r0_2 := cell_chg B_w0r0_2 Cw14 (by omega)
    replace B_w0r0_3 := cell_chg B_w0r0_3 Cw14 (by omega)
    replace B_xT_0 := cell_chg B_xT_0 Cw14 (by omega)
    replace B_xT_1 := cell_chg B_xT_1 Cw14 (by omega)
    replace B_xT_2 := cell_chg B_xT_2 Cw14 (by omega)
    replace B_xT_3 := cell_chg B_xT_3 Cw14 (by omega)
    replace B_g0r0_0 := cell_chg B_g0r0_0 Cw14 (by omega)
    replace B_g0r0_1 := cell_chg B_g0r0_1 Cw14 (by omega)
    replace B_g0r0_2 := cell_chg B_g0r0_2 Cw14 (by omega)
    replace B_g0r0_3 := cell_chg B_g0r0_3 Cw14 (by omega)
    have Sw14 : w13.heap.size ≤ w14.heap.size := Cw14.size
    replace X := Chg.ext X Cw14 (by omega)
    clear Cw14 Zw14
    clear O_xT
    clear O_xFates
    clear B_xT_0
    clear B_xT_1
    clear B_xT_2
    clear B_xT_3
    go_wp2_with fail
    refine (eqTwo_c _ _ _ _ _ O_g0r0.view O_w0r0.view).mono ?_
    rintro e w15 ⟨rfl, Ew15⟩
    have Ew15c : Ext w14 w15 := Ew15
    replace O_w0r0 := O_w0r0.ext Ew15c
    replace O_g0r0 := O_g0r0.ext Ew15c
    replace B_AT_0 := cell_ext B_AT_0 Ew15c
    replace B_AT_1 := cell_ext B_AT_1 Ew15c
    replace B_AT_2 := cell_ext B_AT_2 Ew15c
    replace B_AT_3 := cell_ext B_AT_3 Ew15c
    replace B_w0r0_0 := cell_ext B_w0r0_0 Ew15c
    replace B_w0r0_1 := cell_ext B_w0r0_1 Ew15c
    replace B_w0r0_2 := cell_ext B_w0r0_2 Ew15c
    replace B_w0r0_3 := cell_ext B_w0r0_3 Ew15c
    replace B_g0r0_0 := cell_ext B_g0r0_0 Ew15c
    replace B_g0r0_1 := cell_ext B_g0r0_1 Ew15c
    replace B_g0r0_2 := cell_ext B_g0r0_2 Ew15c
    replace B_g0r0_3 := cell_ext B_g0r0_3 Ew15c
    have Sw15 : w14.heap.size ≤ w15.heap.size := by have := Ew15.size; (try simp at this); omega
    replace X := X.trans Ew15c
    clear Ew15 Ew15c
    go_wp2_with fail
    refine (markTwo_c _ _ _ _ _ _ O_g0r0 (by omega) (by omega)).mono ?_
    rintro e w16 ⟨rfl, Cw16, O_g0r0'⟩
    replace O_w0r0 := O_w0r0.chg Cw16 (by omega)
    clear O_g0r0
    have O_g0r0 := O_g0r0'
    clear O_g0r0'
    replace B_AT_0 := cell_chg B_AT_0 Cw16 (by omega)
    replace B_AT_1 := cell_chg B_AT_1 Cw16 (by omega)
    replace B_AT_2 := cell_chg B_AT_2 Cw16 (by omega)
    replace B_AT_3 := cell_chg B_AT_3 Cw16 (by omega)
    replace B_w0r0_0 := cell_chg B_w0r0_0 Cw16 (by omega)
    replace B_w0r0_1 := cell_chg B_w0r0_1 Cw16 (by omega)
    replace B_w0r0_2 := cell_chg B_w0r0_2 Cw16 (by omega)
    replace B_w0r0_3 := cell_chg B_w0r0_3 Cw16 (by omega)
    replace B_g0r0_0 := cell_chg B_g0r0_0 Cw16 (by omega)
    replace B_g0r0_1 := cell_chg B_g0r0_1 Cw16 (by omega)
    replace B_g0r0_2 := cell_chg B_g0r0_2 Cw16 (by omega)
    replace B_g0r0_3 := cell_chg B_g0r0_3 Cw16 (by omega)
    have Sw16 : w15.heap.size ≤ w16.heap.size := Cw16.size
    replace X := Chg.ext X Cw16 (by omega)
    clear Cw16
    go_wp2_with fail
    refine (heldTwo_c _ (bothFallen d_T d_Fates) _ _ O_g0r0.view (by omega) (by omega)).mono ?_
    rintro e w17 ⟨rfl, Ew17⟩
    have Ew17c : Ext w16 w17 := Ew17
    replace O_w0r0 := O_w0r0.ext Ew17c
    replace O_g0r0 := O_g0r0.ext Ew17c
    replace B_AT_0 := cell_ext B_AT_0 Ew17c
    replace B_AT_1 := cell_ext B_AT_1 Ew17c
    replace B_AT_2 := cell_ext B_AT_2 Ew17c
    replace B_AT_3 := cell_ext B_AT_3 Ew17c
    replace B_w0r0_0 := cell_ext B_w0r0_0 Ew17c
    replace B_w0r0_1 := cell_ext B_w0r0_1 Ew17c
    replace B_w0r0_2 := cell_ext B_w0r0_2 Ew17c
    replace B_w0r0_3 := cell_ext B_w0r0_3 Ew17c
    replace B_g0r0_0 := cell_ext B_g0r0_0 Ew17c
    replace B_g0r0_1 := cell_ext B_g0r0_1 Ew17c
    replace B_g0r0_2 := cell_ext B_g0r0_2 Ew17c
    replace B_g0r0_3 := cell_ext B_g0r0_3 Ew17c
    have Sw17 : w16.heap.size ≤ w17.heap.size := by have := Ew17.size; (try simp at this); omega
    replace X := X.trans Ew17c
    clear Ew17 Ew17c
    go_wp2_with fail
    refine (toTwo_c _ d_T _ (twoC.vext H_T.out (X)) (by first | omega | exact sz_T)).mono ?_
    rintro e w18 ⟨u_uT, v_uT, p_uT, q_uT, rfl, Ew18, O_uT⟩
    replace O_uT := O_uT.wide (lo' := w17.heap.size) (hi' := w18.heap.size) (by simp) (Nat.le_refl _)
    have Ew18c : Ext w17 w18 := Ew18
    replace O_w0r0 := O_w0r0.ext Ew18c
    replace O_g0r0 := O_g0r0.ext Ew18c
    replace B_AT_0 := cell_ext B_AT_0 Ew18c
    replace B_AT_1 := cell_ext B_AT_1 Ew18c
    replace B_AT_2 := cell_ext B_AT_2 Ew18c
    replace B_AT_3 := cell_ext B_AT_3 Ew18c
    replace B_w0r0_0 := cell_ext B_w0r0_0 Ew18c
    replace B_w0r0_1 := cell_ext B_w0r0_1 Ew18c
    replace B_w0r0_2 := cell_ext B_w0r0_2 Ew18c
    replace B_w0r0_3 := cell_ext B_w0r0_3 Ew18c
    replace B_g0r0_0 := cell_ext B_g0r0_0 Ew18c
    replace B_g0r0_1 := cell_ext B_g0r0_1 Ew18c
    replace B_g0r0_2 := cell_ext B_g0r0_2 Ew18c
    replace B_g0r0_3 := cell_ext B_g0r0_3 Ew18c
    have Sw18 : w17.heap.size ≤ w18.heap.size := by have := Ew18.size; (try simp at this); omega
    replace X := X.trans Ew18c
    clear Ew18 Ew18c
    obtain ⟨⟨⟨b_uT, c_uT, rfl⟩, bb_uT, cc_uT, rfl⟩, ⟨bp_uT, cp_uT, rfl⟩, bq_uT, cq_uT, rfl⟩ := two_take O_uT
    go_wp2_with fail
    refine (toInt64S_c _ d_Fates _ (rowC.vext H_Fates.out (X)) (by first | omega | exact sz_Fates)).mono ?_
    rintro e w19 ⟨v_uFates, rfl, Ew19, O_uFates⟩
    replace O_uFates := O_uFates.wide (lo' := w18.heap.size) (hi' := w19.heap.size) (by simp) (Nat.le_refl _)
    have Ew19c : Ext w18 w19 := Ew19
    replace O_w0r0 := O_w0r0.ext Ew19c
    replace O_g0r0 := O_g0r0.ext Ew19c
    replace O_uT := O_uT.ext Ew19c
    replace B_AT_0 := cell_ext B_AT_0 Ew19c
    replace B_AT_1 := cell_ext B_AT_1 Ew19c
    replace B_AT_2 := cell_ext B_AT_2 Ew19c
    replace B_AT_3 := cell_ext B_AT_3 Ew19c
    replace B_w0r0_0 := cell_ext B_w0r0_0 Ew19c
    replace B_w0r0_1 := cell_ext B_w0r0_1 Ew19c
    replace B_w0r0_2 := cell_ext B_w0r0_2 Ew19c
    replace B_w0r0_3 := cell_ext B_w0r0_3 Ew19c
    replace B_g0r0_0 := cell_ext B_g0r0_0 Ew19c
    replace B_g0r0_1 := cell_ext B_g0r0_1 Ew19c
    replace B_g0r0_2 := cell_ext B_g0r0_2 Ew19c
    replace B_g0r0_3 := cell_ext B_g0r0_3 Ew19c
    have Sw19 : w18.heap.size ≤ w19.heap.size := by have := Ew19.size; (try simp at this); omega
    replace X := X.trans Ew19c
    clear Ew19 Ew19c
    go_wp2_with fail
    refine (implBothFallen_c _ _ _ _ _ O_uT.view O_uFates.view (by omega)).mono ?_
    rintro e w20 ⟨u_h0r0, v_h0r0, p_h0r0, q_h0r0, rfl, Ew20, O_h0r0⟩
    replace O_h0r0 := O_h0r0.wide (lo' := w19.heap.size) (hi' := w20.heap.size) (by simp) (Nat.le_refl _)
    have Ew20c : Ext w19 w20 := Ew20
    replace O_w0r0 := O_w0r0.ext Ew20c
    replace O_g0r0 := O_g0r0.ext Ew20c
    replace O_uT := O_uT.ext Ew20c
    replace O_uFates := O_uFates.ext Ew20c
    replace B_AT_0 := cell_ext B_AT_0 Ew20c
    replace B_AT_1 := cell_ext B_AT_1 Ew20c
    replace B_AT_2 := cell_ext B_AT_2 Ew20c
    replace B_AT_3 := cell_ext B_AT_3 Ew20c
    replace B_w0r0_0 := cell_ext B_w0r0_0 Ew20c
    replace B_w0r0_1 := cell_ext B_w0r0_1 Ew20c
    replace B_w0r0_2 := cell_ext B_w0r0_2 Ew20c
    replace B_w0r0_3 := cell_ext B_w0r0_3 Ew20c
    replace B_g0r0_0 := cell_ext B_g0r0_0 Ew20c
    replace B_g0r0_1 := cell_ext B_g0r0_1 Ew20c
    replace B_g0r0_2 := cell_ext B_g0r0_2 Ew20c
    replace B_g0r0_3 := cell_ext B_g0r0_3 Ew20c
    have Sw20 : w19.heap.size ≤ w20.heap.size := by have := Ew20.size; (try simp at this); omega
    replace X := X.trans Ew20c
    clear Ew20 Ew20c
    obtain ⟨⟨⟨b_h0r0, c_h0r0, rfl⟩, bb_h0r0, cc_h0r0, rfl⟩, ⟨bp_h0r0, cp_h0r0, rfl⟩, bq_h0r0, cq_h0r0, rfl⟩ := two_take O_h0r0
    clear O_uT
    clear O_uFates
    have N_AT_0 : (W.heap.size) < w20.heap.size := by omega
    have N_w0r0_0 : (w4.heap.size) < w20.heap.size := by omega
    have N_g0r0_0 : (w7.heap.size) < w20.heap.size := by omega
    go_wp2_with fail
    refine (eqTwo_c _ _ _ _ _ (O_h0r0.ext (Ext.pAlloc (Ext.refl _) _)).view (O_w0r0.ext (Ext.pAlloc (Ext.refl _) _)).view).mono ?_
    rintro e w21 ⟨rfl, Ew21⟩
    have Ew21c : Ext w20 w21 := Ext.trans (Ext.pAlloc (Ext.refl _) _) Ew21
    replace O_w0r0 := O_w0r0.ext Ew21c
    replace O_g0r0 := O_g0r0.ext Ew21c
    replace O_h0r0 := O_h0r0.ext Ew21c
    replace B_AT_0 := cell_ext B_AT_0 Ew21c
    replace B_AT_1 := cell_ext B_AT_1 Ew21c
    replace B_AT_2 := cell_ext B_AT_2 Ew21c
    replace B_AT_3 := cell_ext B_AT_3 Ew21c
    replace B_w0r0_0 := cell_ext B_w0r0_0 Ew21c
    replace B_w0r0_1 := cell_ext B_w0r0_1 Ew21c
    replace B_w0r0_2 := cell_ext B_w0r0_2 Ew21c
    replace B_w0r0_3 := cell_ext B_w0r0_3 Ew21c
    replace B_g0r0_0 := cell_ext B_g0r0_0 Ew21c
    replace B_g0r0_1 := cell_ext B_g0r0_1 Ew21c
    replace B_g0r0_2 := cell_ext B_g0r0_2 Ew21c
    replace B_g0r0_3 := cell_ext B_g0r0_3 Ew21c
    have B_h0r0_0 : w21.cell? ⟨(w20.heap.size), 0, none⟩ = some (.slice b_h0r0 (bothFallen d_T d_Fates).1.1.length c_h0r0) := cell_ext (by simp [go_sem]) Ew21
    have B_h0r0_1 : w21.cell? ⟨(w20.heap.size), 1, none⟩ = some (.slice bb_h0r0 (bothFallen d_T d_Fates).1.2.length cc_h0r0) := cell_ext (by simp [go_sem]) Ew21
    have B_h0r0_2 : w21.cell? ⟨(w20.heap.size), 2, none⟩ = some (.slice bp_h0r0 (bothFallen d_T d_Fates).2.1.length cp_h0r0) := cell_ext (by simp [go_sem]) Ew21
    have B_h0r0_3 : w21.cell? ⟨(w20.heap.size), 3, none⟩ = some (.slice bq_h0r0 (bothFallen d_T d_Fates).2.2.length cq_h0r0) := cell_ext (by simp [go_sem]) Ew21
    have Sw21 : w20.heap.size + 1 ≤ w21.heap.size := by have := Ew21.size; (try simp at this); omega
    replace X := X.trans Ew21c
    clear Ew21 Ew21c
    go_wp2_with fail
    refine (heldTwo_c _ (bothFallen d_T d_Fates) _ _ O_g0r0.view (by omega) (by omega)).mono ?_
    rintro e w22 ⟨rfl, Ew22⟩
    have Ew22c : Ext w21 w22 := Ew22
    replace O_w0r0 := O_w0r0.ext Ew22c
    replace O_g0r0 := O_g0r0.ext Ew22c
    replace O_h0r0 := O_h0r0.ext Ew22c
    replace B_AT_0 := cell_ext B_AT_0 Ew22c
    replace B_AT_1 := cell_ext B_AT_1 Ew22c
    replace B_AT_2 := cell_ext B_AT_2 Ew22c
    replace B_AT_3 := cell_ext B_AT_3 Ew22c
    replace B_w0r0_0 := cell_ext B_w0r0_0 Ew22c
    replace B_w0r0_1 := cell_ext B_w0r0_1 Ew22c
    replace B_w0r0_2 := cell_ext B_w0r0_2 Ew22c
    replace B_w0r0_3 := cell_ext B_w0r0_3 Ew22c
    replace B_g0r0_0 := cell_ext B_g0r0_0 Ew22c
    replace B_g0r0_1 := cell_ext B_g0r0_1 Ew22c
    replace B_g0r0_2 := cell_ext B_g0r0_2 Ew22c
    replace B_g0r0_3 := cell_ext B_g0r0_3 Ew22c
    replace B_h0r0_0 := cell_ext B_h0r0_0 Ew22c
    replace B_h0r0_1 := cell_ext B_h0r0_1 Ew22c
    replace B_h0r0_2 := cell_ext B_h0r0_2 Ew22c
    replace B_h0r0_3 := cell_ext B_h0r0_3 Ew22c
    have Sw22 : w21.heap.size ≤ w22.heap.size := by have := Ew22.size; (try simp at this); omega
    replace X := X.trans Ew22c
    clear Ew22 Ew22c
    go_wp2
    go_ret
    exact ⟨rfl, X⟩

set_option maxRecDepth 100000 in
theorem exactbothfallen_holds : Rows.FnExactBothFallenSaid :=
  OpenClaim.holds_of_wide 7 Try.f7 rfl rfl rfl rfl rfl rfl rfl ⟨rfl, rfl, rfl, rfl, rfl⟩ rfl rfl rfl rfl rfl (by kernel_rfl) Try.func7 (by kernel_rfl)
    (of_decide_eq_true (by kernel_rfl)) (by unfold Func.isWrapper; rw [if_neg (of_decide_eq_false (by kernel_rfl))]; exact ⟨rfl, rfl⟩)
    (fun os started H enc _ => law_lifted (C := Try.checked) (f := 7) (fn := Try.f7) (s := Rows.fnExactBothFallenSpec) (tb := 4) Try.own started (by kernel_rfl) Try.func7 Try.laidOut (of_decide_eq_true (by kernel_rfl)) rfl Try.underlying4 rfl
      (fun ds h => by match ds, h with | [_, _], _ => exact ⟨rfl, rfl, rfl⟩)
      (ChangeSpec.witness6 (enc := enc) (C := Try.checked) false ⟨#[], #[.agg #[.slice none 0 0, .slice none 0 0, .slice none 0 0, .slice none 0 0], .slice none 0 0], []⟩ 8 (by kernel_rfl) (by kernel_rfl) (by kernel_rfl) (by kernel_rfl))
      exactbothfallen_c)

end Go.Proofs.Ytbapomhoipdanaa
