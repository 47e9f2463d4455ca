/- The law FnExactNewTwo is true for every input: it returns true, and what it was given reads as before. -/
import Derived.Test.YtfakjcckgcgalaaTied
import Derived.Test.YtfakjcckgcgalaaTw
set_option linter.unusedVariables false
set_option linter.unusedSimpArgs false
namespace Go.Proofs.Ytfakjcckgcgalaa
open Go.RowKit Go.Sl

theorem tiedRows : Tied Try.prog rowsC 22 := Tied.slice Try.underlying22 rfl (by decide) tiedRow
theorem tiedWrite : Tied Try.prog writeC 88 := Tied.struct2 Try.underlying88 ⟨rfl, rfl⟩ rfl rfl rfl (Tied.int Try.underlying2) tiedRow
theorem tiedWait : Tied Try.prog waitC 30 := Tied.slice Try.underlying30 rfl (by decide) tiedWrite
theorem tiedDisk : Tied Try.prog diskC 32 := Tied.struct2 Try.underlying32 ⟨rfl, rfl⟩ rfl rfl rfl tiedRows tiedWait
theorem wcnt_wsz (l : List WriteD) : cntL wcnt l = l.length + cntL wsz l := by
  induction l with
  | nil => rfl
  | cons x l ih => simp only [cntL, ih, List.length_cons, wcnt, wsz]; omega
theorem szDisk_small (m : DiskD) (q : Int) (h0 : -1 ≤ q) (h1 : q ≤ 1048576) : (-1 ≤ szI (dsz m) q ∧ szI (dsz m) q ≤ 1048576) ∧ (¬ szI (dsz m) q < 0 → dsmall m ∧ dcnt m ≤ 1048576) := by
  obtain ⟨h2, h3⟩ := dsz_small m q h0 h1
  refine ⟨h2, fun h => ⟨h3 h, ?_⟩⟩
  unfold szI at h
  unfold dcnt
  rw [wcnt_wsz]
  unfold dsz at h
  split at h <;> omega
theorem disk_take {lo hi : Nat} {w : World} {u v : Value} {m : DiskD} (h : diskC.own lo hi w [u, v] m) : (∃ a c, u = .slice a m.1.length c) ∧ ∃ a c, v = .slice a m.2.length c := by
  obtain ⟨u', v', e, hu, hv⟩ := disk_V.1 h.view
  cases e
  exact ⟨sl_form hu, sl_form hv⟩

theorem tiedTwo : Tied Try.prog twoC 66 := Tied.struct2 Try.underlying66 ⟨rfl, rfl⟩ rfl rfl rfl tiedDisk tiedDisk
theorem szTwo_small (m : TwoD) (q : Int) (h0 : -1 ≤ q) (h1 : q ≤ 1048576) : (-1 ≤ szI (tsz m) q ∧ szI (tsz m) q ≤ 1048576) ∧ (¬ szI (tsz m) q < 0 → tsmall m ∧ tcnt m ≤ 1048576) := by
  have e : ∀ (n : Nat), -1 ≤ szI n q ∧ szI n q ≤ 1048576 := fun n => by unfold szI; split <;> constructor <;> omega
  refine ⟨e _, fun h => ?_⟩
  have hq : (tsz m : Int) ≤ q := by
    unfold szI at h
    split at h <;> omega
  unfold tsz at hq
  have a := szDisk_small m.1 1048576 (by omega) (by omega)
  have b := szDisk_small m.2 1048576 (by omega) (by omega)
  have a' : ¬ szI (dsz m.1) 1048576 < 0 := by unfold szI; rw [if_neg (by omega)]; omega
  have b' : ¬ szI (dsz m.2) 1048576 < 0 := by unfold szI; rw [if_neg (by omega)]; omega
  have hc : ∀ d : DiskD, dcnt d ≤ dsz d := fun d => by unfold dcnt dsz; rw [wcnt_wsz]; omega
  have h1 := hc m.1
  have h2 := hc m.2
  exact ⟨⟨(a.2 a').1, (b.2 b').1⟩, by unfold tcnt; omega⟩
theorem two_take {lo hi : Nat} {w : World} {u v p q : Value} {m : TwoD} (h : twoC.own lo hi w [u, v, p, q] m) : ((∃ a c, u = .slice a m.1.1.length c) ∧ ∃ a c, v = .slice a m.1.2.length c) ∧ (∃ a c, p = .slice a m.2.1.length c) ∧ ∃ a c, q = .slice a m.2.2.length c := by
  obtain ⟨u', v', p', q', e, hu, hv⟩ := two_V.1 h.view
  cases e
  exact ⟨disk_forms hu, disk_forms hv⟩

theorem newDisk_cnt (n : Int) : dcnt (newDisk n) ≤ 4096 := by
  unfold newDisk
  split
  · have key : ∀ m : Nat, cntL rcnt (List.replicate m []) = 0 := by
      intro m
      induction m with
      | zero => rfl
      | succ m ih => simp only [List.replicate_succ, cntL, ih]; rfl
    simp only [dcnt, key]
    decide
  · decide

theorem newTwo_cnt (n : Int) : tcnt (newTwo n) ≤ 8192 := by
  have := newDisk_cnt n
  unfold tcnt newTwo
  dsimp only
  omega

set_option maxHeartbeats 4000000 in
set_option maxRecDepth 100000 in
theorem exactnewtwo_c (W : World) (args : Array Value) (hs : args.size = 1) (h : ∀ (j : Nat) t v, Try.f13.params[j]? = some t → args[j]? = some v → ArgOk Try.prog W t v) :
    Calls Try.prog 13 args W fun e W' => e = .returned (.bool true) ∧ Ext W W' := by
  match args, hs with
  | ⟨[a0]⟩, _ =>
    obtain ⟨d_Sectors, rfl⟩ := (h 0 _ a0 rfl rfl).int Try.underlying2
    clear h
    have bnd := newTwo_cnt d_Sectors
    go_enter Try.func13, Try.ntmps13
    have X : Ext W W := Ext.refl W
    go_wp2_with fail
    refine (specNewTwo_c _ _ ).mono ?_
    rintro e w1 ⟨u_w0r0, v_w0r0, p_w0r0, q_w0r0, rfl, Ew1, O_w0r0⟩
    replace O_w0r0 := O_w0r0.wide (lo' := W.heap.size) (hi' := w1.heap.size) (by simp) (Nat.le_refl _)
    have Ew1c : Ext W w1 := Ew1
    have Sw1 : W.heap.size ≤ w1.heap.size := by have := Ew1.size; (try simp at this); omega
    replace X := X.trans Ew1c
    clear Ew1 Ew1c
    obtain ⟨⟨⟨b_w0r0, c_w0r0, rfl⟩, bb_w0r0, cc_w0r0, rfl⟩, ⟨bp_w0r0, cp_w0r0, rfl⟩, bq_w0r0, cq_w0r0, rfl⟩ := two_take O_w0r0
    go_wp2_with fail
    refine (implNewTwo_c _ _ ).mono ?_
    rintro e w2 ⟨u_g0r0, v_g0r0, p_g0r0, q_g0r0, rfl, Ew2, O_g0r0⟩
    replace O_g0r0 := O_g0r0.wide (lo' := w1.heap.size + 1) (hi' := w2.heap.size) (by simp) (Nat.le_refl _)
    have Ew2c : Ext w1 w2 := Ext.trans (Ext.pAlloc (Ext.refl _) _) Ew2
    replace O_w0r0 := O_w0r0.ext Ew2c
    have B_w0r0_0 : w2.cell? ⟨(w1.heap.size), 0, none⟩ = some (.slice b_w0r0 (newTwo d_Sectors).1.1.length c_w0r0) := cell_ext (by simp [go_sem]) Ew2
    have B_w0r0_1 : w2.cell? ⟨(w1.heap.size), 1, none⟩ = some (.slice bb_w0r0 (newTwo d_Sectors).1.2.length cc_w0r0) := cell_ext (by simp [go_sem]) Ew2
    have B_w0r0_2 : w2.cell? ⟨(w1.heap.size), 2, none⟩ = some (.slice bp_w0r0 (newTwo d_Sectors).2.1.length cp_w0r0) := cell_ext (by simp [go_sem]) Ew2
    have B_w0r0_3 : w2.cell? ⟨(w1.heap.size), 3, none⟩ = some (.slice bq_w0r0 (newTwo d_Sectors).2.2.length cq_w0r0) := cell_ext (by simp [go_sem]) Ew2
    have Sw2 : w1.heap.size + 1 ≤ w2.heap.size := by have := Ew2.size; (try simp at this); omega
    replace X := X.trans Ew2c
    clear Ew2 Ew2c
    obtain ⟨⟨⟨b_g0r0, c_g0r0, rfl⟩, bb_g0r0, cc_g0r0, rfl⟩, ⟨bp_g0r0, cp_g0r0, rfl⟩, bq_g0r0, cq_g0r0, rfl⟩ := two_take O_g0r0
    have N_w0r0_0 : (w1.heap.size) < w2.heap.size := by omega
    go_wp2_with fail
    refine (eqTwo_c _ _ _ _ _ (O_g0r0.ext (Ext.pAlloc (Ext.refl _) _)).view (O_w0r0.ext (Ext.pAlloc (Ext.refl _) _)).view).mono ?_
    rintro e w3 ⟨rfl, Ew3⟩
    have Ew3c : Ext w2 w3 := Ext.trans (Ext.pAlloc (Ext.refl _) _) Ew3
    replace O_w0r0 := O_w0r0.ext Ew3c
    replace O_g0r0 := O_g0r0.ext Ew3c
    replace B_w0r0_0 := cell_ext B_w0r0_0 Ew3c
    replace B_w0r0_1 := cell_ext B_w0r0_1 Ew3c
    replace B_w0r0_2 := cell_ext B_w0r0_2 Ew3c
    replace B_w0r0_3 := cell_ext B_w0r0_3 Ew3c
    have B_g0r0_0 : w3.cell? ⟨(w2.heap.size), 0, none⟩ = some (.slice b_g0r0 (newTwo d_Sectors).1.1.length c_g0r0) := cell_ext (by simp [go_sem]) Ew3
    have B_g0r0_1 : w3.cell? ⟨(w2.heap.size), 1, none⟩ = some (.slice bb_g0r0 (newTwo d_Sectors).1.2.length cc_g0r0) := cell_ext (by simp [go_sem]) Ew3
    have B_g0r0_2 : w3.cell? ⟨(w2.heap.size), 2, none⟩ = some (.slice bp_g0r0 (newTwo d_Sectors).2.1.length cp_g0r0) := cell_ext (by simp [go_sem]) Ew3
    have B_g0r0_3 : w3.cell? ⟨(w2.heap.size), 3, none⟩ = some (.slice bq_g0r0 (newTwo d_Sectors).2.2.length cq_g0r0) := cell_ext (by simp [go_sem]) Ew3
    have Sw3 : w2.heap.size + 1 ≤ w3.heap.size := by have := Ew3.size; (try simp at this); omega
    replace X := X.trans Ew3c
    clear Ew3 Ew3c
    go_wp2_with fail
    refine (markTwo_c _ _ _ _ _ _ O_g0r0 (by omega) (by omega)).mono ?_
    rintro e w4 ⟨rfl, Cw4, O_g0r0'⟩
    replace O_w0r0 := O_w0r0.chg Cw4 (by omega)
    clear O_g0r0
    have O_g0r0 := O_g0r0'
    clear O_g0r0'
    replace B_w0r0_0 := cell_chg B_w0r0_0 Cw4 (by omega)
    replace B_w0r0_1 := cell_chg B_w0r0_1 Cw4 (by omega)
    replace B_w0r0_2 := cell_chg B_w0r0_2 Cw4 (by omega)
    replace B_w0r0_3 := cell_chg B_w0r0_3 Cw4 (by omega)
    replace B_g0r0_0 := cell_chg B_g0r0_0 Cw4 (by omega)
    replace B_g0r0_1 := cell_chg B_g0r0_1 Cw4 (by omega)
    replace B_g0r0_2 := cell_chg B_g0r0_2 Cw4 (by omega)
    replace B_g0r0_3 := cell_chg B_g0r0_3 Cw4 (by omega)
    have Sw4 : w3.heap.size ≤ w4.heap.size := Cw4.size
    replace X := Chg.ext X Cw4 (by omega)
    clear Cw4
    go_wp2_with fail
    refine (heldTwo_c _ (newTwo d_Sectors) _ _ O_g0r0.view (by omega) (by omega)).mono ?_
    rintro e w5 ⟨rfl, Ew5⟩
    have Ew5c : Ext w4 w5 := Ew5
    replace O_w0r0 := O_w0r0.ext Ew5c
    replace O_g0r0 := O_g0r0.ext Ew5c
    replace B_w0r0_0 := cell_ext B_w0r0_0 Ew5c
    replace B_w0r0_1 := cell_ext B_w0r0_1 Ew5c
    replace B_w0r0_2 := cell_ext B_w0r0_2 Ew5c
    replace B_w0r0_3 := cell_ext B_w0r0_3 Ew5c
    replace B_g0r0_0 := cell_ext B_g0r0_0 Ew5c
    replace B_g0r0_1 := cell_ext B_g0r0_1 Ew5c
    replace B_g0r0_2 := cell_ext B_g0r0_2 Ew5c
    replace B_g0r0_3 := cell_ext B_g0r0_3 Ew5c
    have Sw5 : w4.heap.size ≤ w5.heap.size := by have := Ew5.size; (try simp at this); omega
    replace X := X.trans Ew5c
    clear Ew5 Ew5c
    go_wp2_with fail
    refine (implNewTwo_c _ _ ).mono ?_
    rintro e w6 ⟨u_h0r0, v_h0r0, p_h0r0, q_h0r0, rfl, Ew6, O_h0r0⟩
    replace O_h0r0 := O_h0r0.wide (lo' := w5.heap.size) (hi' := w6.heap.size) (by simp) (Nat.le_refl _)
    have Ew6c : Ext w5 w6 := Ew6
    replace O_w0r0 := O_w0r0.ext Ew6c
    replace O_g0r0 := O_g0r0.ext Ew6c
    replace B_w0r0_0 := cell_ext B_w0r0_0 Ew6c
    replace B_w0r0_1 := cell_ext B_w0r0_1 Ew6c
    replace B_w0r0_2 := cell_ext B_w0r0_2 Ew6c
    replace B_w0r0_3 := cell_ext B_w0r0_3 Ew6c
    replace B_g0r0_0 := cell_ext B_g0r0_0 Ew6c
    replace B_g0r0_1 := cell_ext B_g0r0_1 Ew6c
    replace B_g0r0_2 := cell_ext B_g0r0_2 Ew6c
    replace B_g0r0_3 := cell_ext B_g0r0_3 Ew6c
    have Sw6 : w5.heap.size ≤ w6.heap.size := by have := Ew6.size; (try simp at this); omega
    replace X := X.trans Ew6c
    clear Ew6 Ew6c
    obtain ⟨⟨⟨b_h0r0, c_h0r0, rfl⟩, bb_h0r0, cc_h0r0, rfl⟩, ⟨bp_h0r0, cp_h0r0, rfl⟩, bq_h0r0, cq_h0r0, rfl⟩ := two_take O_h0r0
    have N_w0r0_0 : (w1.heap.size) < w6.heap.size := by omega
    have N_g0r0_0 : (w2.heap.size) < w6.heap.size := by omega
    go_wp2_with fail
    refine (eqTwo_c _ _ _ _ _ (O_h0r0.ext (Ext.pAlloc (Ext.refl _) _)).view (O_w0r0.ext (Ext.pAlloc (Ext.refl _) _)).view).mono ?_
    rintro e w7 ⟨rfl, Ew7⟩
    have Ew7c : Ext w6 w7 := Ext.trans (Ext.pAlloc (Ext.refl _) _) Ew7
    replace O_w0r0 := O_w0r0.ext Ew7c
    replace O_g0r0 := O_g0r0.ext Ew7c
    replace O_h0r0 := O_h0r0.ext Ew7c
    replace B_w0r0_0 := cell_ext B_w0r0_0 Ew7c
    replace B_w0r0_1 := cell_ext B_w0r0_1 Ew7c
    replace B_w0r0_2 := cell_ext B_w0r0_2 Ew7c
    replace B_w0r0_3 := cell_ext B_w0r0_3 Ew7c
    replace B_g0r0_0 := cell_ext B_g0r0_0 Ew7c
    replace B_g0r0_1 := cell_ext B_g0r0_1 Ew7c
    replace B_g0r0_2 := cell_ext B_g0r0_2 Ew7c
    replace B_g0r0_3 := cell_ext B_g0r0_3 Ew7c
    have B_h0r0_0 : w7.cell? ⟨(w6.heap.size), 0, none⟩ = some (.slice b_h0r0 (newTwo d_Sectors).1.1.length c_h0r0) := cell_ext (by simp [go_sem]) Ew7
    have B_h0r0_1 : w7.cell? ⟨(w6.heap.size), 1, none⟩ = some (.slice bb_h0r0 (newTwo d_Sectors).1.2.length cc_h0r0) := cell_ext (by simp [go_sem]) Ew7
    have B_h0r0_2 : w7.cell? ⟨(w6.heap.size), 2, none⟩ = some (.slice bp_h0r0 (newTwo d_Sectors).2.1.length cp_h0r0) := cell_ext (by simp [go_sem]) Ew7
    have B_h0r0_3 : w7.cell? ⟨(w6.heap.size), 3, none⟩ = some (.slice bq_h0r0 (newTwo d_Sectors).2.2.length cq_h0r0) := cell_ext (by simp [go_sem]) Ew7
    have Sw7 : w6.heap.size + 1 ≤ w7.heap.size := by have := Ew7.size; (try simp at this); omega
    replace X := X.trans Ew7c
    clear Ew7 Ew7c
    go_wp2_with fail
    refine (heldTwo_c _ (newTwo d_Sectors) _ _ O_g0r0.view (by omega) (by omega)).mono ?_
    rintro e w8 ⟨rfl, Ew8⟩
    have Ew8c : Ext w7 w8 := Ew8
    replace O_w0r0 := O_w0r0.ext Ew8c
    replace O_g0r0 := O_g0r0.ext Ew8c
    replace O_h0r0 := O_h0r0.ext Ew8c
    replace B_w0r0_0 := cell_ext B_w0r0_0 Ew8c
    replace B_w0r0_1 := cell_ext B_w0r0_1 Ew8c
    replace B_w0r0_2 := cell_ext B_w0r0_2 Ew8c
    replace B_w0r0_3 := cell_ext B_w0r0_3 Ew8c
    replace B_g0r0_0 := cell_ext B_g0r0_0 Ew8c
    replace B_g0r0_1 := cell_ext B_g0r0_1 Ew8c
    replace B_g0r0_2 := cell_ext B_g0r0_2 Ew8c
    replace B_g0r0_3 := cell_ext B_g0r0_3 Ew8c
    replace B_h0r0_0 := cell_ext B_h0r0_0 Ew8c
    replace B_h0r0_1 := cell_ext B_h0r0_1 Ew8c
    replace B_h0r0_2 := cell_ext B_h0r0_2 Ew8c
    replace B_h0r0_3 := cell_ext B_h0r0_3 Ew8c
    have Sw8 : w7.heap.size ≤ w8.heap.size := by have := Ew8.size; (try simp at this); omega
    replace X := X.trans Ew8c
    clear Ew8 Ew8c
    go_wp2
    go_ret
    exact ⟨rfl, X⟩

set_option maxRecDepth 100000 in
theorem exactnewtwo_holds : Rows.FnExactNewTwoSaid :=
  OpenClaim.holds_of_wide 13 Try.f13 rfl rfl rfl rfl rfl rfl rfl ⟨rfl, rfl, rfl, rfl, rfl⟩ rfl rfl rfl rfl rfl (by kernel_rfl) Try.func13 (by kernel_rfl)
    (of_decide_eq_true (by kernel_rfl)) (by unfold Func.isWrapper; rw [if_neg (of_decide_eq_false (by kernel_rfl))]; exact ⟨rfl, rfl⟩)
    (fun os started H enc _ => law_lifted (C := Try.checked) (f := 13) (fn := Try.f13) (s := Rows.fnExactNewTwoSpec) (tb := 4) Try.own started (by kernel_rfl) Try.func13 Try.laidOut (of_decide_eq_true (by kernel_rfl)) rfl Try.underlying4 rfl
      (fun ds h => by match ds, h with | [_], _ => exact ⟨rfl, rfl, rfl⟩)
      (ChangeSpec.witness6 (enc := enc) (C := Try.checked) false ⟨#[], #[.int .i64 0], []⟩ 8 (by kernel_rfl) (by kernel_rfl) (by kernel_rfl) (by kernel_rfl))
      exactnewtwo_c)

end Go.Proofs.Ytfakjcckgcgalaa
