/- The law FnExactSafeIn is true for every input: it returns true, and what it was given reads as before. -/
import Derived.Test.YtfakjcckgcgalaaTied
import Derived.Test.YtfakjcckgcgalaaDk3
set_option linter.unusedVariables false
set_option linter.unusedSimpArgs false
namespace Go.Proofs.Ytfakjcckgcgalaa
open Go.RowKit Go.Sl

theorem tiedRows : Tied Try.prog rowsC 22 := Tied.slice Try.underlying22 rfl (by decide) tiedRow
theorem tiedWrite : Tied Try.prog writeC 88 := Tied.struct2 Try.underlying88 ⟨rfl, rfl⟩ rfl rfl rfl (Tied.int Try.underlying2) tiedRow
theorem tiedWait : Tied Try.prog waitC 30 := Tied.slice Try.underlying30 rfl (by decide) tiedWrite
theorem tiedDisk : Tied Try.prog diskC 32 := Tied.struct2 Try.underlying32 ⟨rfl, rfl⟩ rfl rfl rfl tiedRows tiedWait
theorem wcnt_wsz (l : List WriteD) : cntL wcnt l = l.length + cntL wsz l := by
  induction l with
  | nil => rfl
  | cons x l ih => simp only [cntL, ih, List.length_cons, wcnt, wsz]; omega
theorem szDisk_small (m : DiskD) (q : Int) (h0 : -1 ≤ q) (h1 : q ≤ 1048576) : (-1 ≤ szI (dsz m) q ∧ szI (dsz m) q ≤ 1048576) ∧ (¬ szI (dsz m) q < 0 → dsmall m ∧ dcnt m ≤ 1048576) := by
  obtain ⟨h2, h3⟩ := dsz_small m q h0 h1
  refine ⟨h2, fun h => ⟨h3 h, ?_⟩⟩
  unfold szI at h
  unfold dcnt
  rw [wcnt_wsz]
  unfold dsz at h
  split at h <;> omega
theorem disk_take {lo hi : Nat} {w : World} {u v : Value} {m : DiskD} (h : diskC.own lo hi w [u, v] m) : (∃ a c, u = .slice a m.1.length c) ∧ ∃ a c, v = .slice a m.2.length c := by
  obtain ⟨u', v', e, hu, hv⟩ := disk_V.1 h.view
  cases e
  exact ⟨sl_form hu, sl_form hv⟩

set_option maxHeartbeats 4000000 in
set_option maxRecDepth 100000 in
theorem exactsafein_c (W : World) (args : Array Value) (hs : args.size = 1) (h : ∀ (j : Nat) t v, Try.f5.params[j]? = some t → args[j]? = some v → ArgOk Try.prog W t v) :
    Calls Try.prog 5 args W fun e W' => e = .returned (.bool true) ∧ Ext W W' := by
  match args, hs with
  | ⟨[a0]⟩, _ =>
    obtain ⟨cs_D, d_D, rfl, H_D'⟩ := (h 0 _ a0 rfl rfl).struct Try.underlying32 tiedDisk
    have H_D : Hid (diskC.V W cs_D d_D) := H_D'
    obtain ⟨u_D, v_D, rfl, _⟩ := disk_V.1 H_D'; clear H_D'
    clear h
    have sz_D := szDisk_small d_D 1048576 (by omega) (by omega)
    by_cases neg_D : szI (dsz d_D) 1048576 < 0
    · go_enter Try.func5, Try.ntmps5
      have X : Ext W W := Ext.refl W
      go_wp2_with fail
      refine (szDisk_c _ d_D _ _ (diskC.vext H_D.out (Ext.pAlloc (X) _)) (by omega) (by omega)).mono ?_
      rintro e w1 ⟨rfl, Ew1⟩
      have Ew1c : Ext W w1 := Ext.trans (Ext.pAlloc (Ext.refl _) _) Ew1
      have B_AD_0 : w1.cell? ⟨(W.heap.size), 0, none⟩ = some (u_D) := cell_ext (by simp [go_sem]) Ew1
      have B_AD_1 : w1.cell? ⟨(W.heap.size), 1, none⟩ = some (v_D) := cell_ext (by simp [go_sem]) Ew1
      have Sw1 : W.heap.size + 1 ≤ w1.heap.size := by have := Ew1.size; (try simp at this); omega
      replace X := X.trans Ew1c
      clear Ew1 Ew1c
      go_wp2
      go_ret
      exact ⟨rfl, by first | exact X | (repeat (first | with_reducible exact Ext.refl _ | with_reducible assumption | with_reducible refine Ext.pAlloc ?_ _ | ((with_reducible refine Ext.pSet ?_ ?_ _); rotate_left; (simp <;> omega)) | with_reducible refine Ext.pDrew ?_ | with_reducible refine Ext.pDrewN ?_ _ | with_reducible refine Ext.trans ?_ (by with_reducible assumption)))⟩
    replace sz_D := sz_D.2 neg_D
    have szc_D := sz_D.2
    replace sz_D := sz_D.1
    go_enter Try.func5, Try.ntmps5
    have X : Ext W W := Ext.refl W
    go_wp2_with fail
    refine (szDisk_c _ d_D _ _ (diskC.vext H_D.out (Ext.pAlloc (X) _)) (by omega) (by omega)).mono ?_
    rintro e w1 ⟨rfl, Ew1⟩
    have Ew1c : Ext W w1 := Ext.trans (Ext.pAlloc (Ext.refl _) _) Ew1
    have B_AD_0 : w1.cell? ⟨(W.heap.size), 0, none⟩ = some (u_D) := cell_ext (by simp [go_sem]) Ew1
    have B_AD_1 : w1.cell? ⟨(W.heap.size), 1, none⟩ = some (v_D) := cell_ext (by simp [go_sem]) Ew1
    have Sw1 : W.heap.size + 1 ≤ w1.heap.size := by have := Ew1.size; (try simp at this); omega
    replace X := X.trans Ew1c
    clear Ew1 Ew1c
    go_wp2_with fail
    refine (toDisk_c _ d_D _ (diskC.vext H_D.out (X)) (by first | omega | exact sz_D)).mono ?_
    rintro e w2 ⟨u_tD, v_tD, rfl, Ew2, O_tD⟩
    replace O_tD := O_tD.wide (lo' := w1.heap.size) (hi' := w2.heap.size) (by simp) (Nat.le_refl _)
    have Ew2c : Ext w1 w2 := Ew2
    replace B_AD_0 := cell_ext B_AD_0 Ew2c
    replace B_AD_1 := cell_ext B_AD_1 Ew2c
    have Sw2 : w1.heap.size ≤ w2.heap.size := by have := Ew2.size; (try simp at this); omega
    replace X := X.trans Ew2c
    clear Ew2 Ew2c
    obtain ⟨⟨b_tD, c_tD, rfl⟩, bb_tD, cc_tD, rfl⟩ := disk_take O_tD
    go_wp2_with fail
    refine (specSafeIn_c _ _ _ O_tD.view).mono ?_
    rintro e w3 ⟨rfl, Ew3⟩
    have Ew3c : Ext w2 w3 := Ew3
    replace O_tD := O_tD.ext Ew3c
    replace B_AD_0 := cell_ext B_AD_0 Ew3c
    replace B_AD_1 := cell_ext B_AD_1 Ew3c
    have Sw3 : w2.heap.size ≤ w3.heap.size := by have := Ew3.size; (try simp at this); omega
    replace X := X.trans Ew3c
    clear Ew3 Ew3c
    clear O_tD
    go_wp2_with fail
    refine (toDisk_c _ d_D _ (diskC.vext H_D.out (X)) (by first | omega | exact sz_D)).mono ?_
    rintro e w4 ⟨u_xD, v_xD, rfl, Ew4, O_xD⟩
    replace O_xD := O_xD.wide (lo' := w3.heap.size) (hi' := w4.heap.size) (by simp) (Nat.le_refl _)
    have Ew4c : Ext w3 w4 := Ew4
    replace B_AD_0 := cell_ext B_AD_0 Ew4c
    replace B_AD_1 := cell_ext B_AD_1 Ew4c
    have Sw4 : w3.heap.size ≤ w4.heap.size := by have := Ew4.size; (try simp at this); omega
    replace X := X.trans Ew4c
    clear Ew4 Ew4c
    obtain ⟨⟨b_xD, c_xD, rfl⟩, bb_xD, cc_xD, rfl⟩ := disk_take O_xD
    have N_AD_0 : (W.heap.size) < w4.heap.size := by omega
    go_wp2_with fail
    refine (implSafeIn_c _ _ _ (O_xD.ext (Ext.pAlloc (Ext.refl _) _)).view).mono ?_
    rintro e w5 ⟨rfl, Ew5⟩
    have Ew5c : Ext w4 w5 := Ext.trans (Ext.pAlloc (Ext.refl _) _) Ew5
    replace O_xD := O_xD.ext Ew5c
    replace B_AD_0 := cell_ext B_AD_0 Ew5c
    replace B_AD_1 := cell_ext B_AD_1 Ew5c
    have B_xD_0 : w5.cell? ⟨(w4.heap.size), 0, none⟩ = some (.slice b_xD (d_D).1.length c_xD) := cell_ext (by simp [go_sem]) Ew5
    have B_xD_1 : w5.cell? ⟨(w4.heap.size), 1, none⟩ = some (.slice bb_xD (d_D).2.length cc_xD) := cell_ext (by simp [go_sem]) Ew5
    have Sw5 : w4.heap.size + 1 ≤ w5.heap.size := by have := Ew5.size; (try simp at this); omega
    replace X := X.trans Ew5c
    clear Ew5 Ew5c
    go_wp2
    go_region_held3 (fun ω => ω.cell? ⟨(w4.heap.size), 0, none⟩ = some (.slice b_xD (d_D).1.length c_xD) ∧ ω.cell? ⟨(w4.heap.size), 1, none⟩ = some (.slice bb_xD (d_D).2.length cc_xD) ∧ ω.cell? ⟨(W.heap.size), 0, none⟩ = some (u_D) ∧ ω.cell? ⟨(W.heap.size), 1, none⟩ = some (v_D) ∧ Ext w5 ω)
      ((refine ⟨cell_ext B_xD_0 ?_, cell_ext B_xD_1 ?_, cell_ext B_AD_0 ?_, cell_ext B_AD_1 ?_, ?_⟩ <;> (repeat (first | with_reducible exact Ext.refl _ | with_reducible assumption | with_reducible refine Ext.pAlloc ?_ _ | ((with_reducible refine Ext.pSet ?_ ?_ _); rotate_left; (simp <;> omega)) | with_reducible refine Ext.pDrew ?_ | with_reducible refine Ext.pDrewN ?_ _ | with_reducible refine Ext.trans ?_ (by with_reducible assumption)))))
      ((first
        | (go_at_call 22; refine (toDisk_c _ d_D _ (diskC.vext H_D.out (by repeat (first | with_reducible exact Ext.refl _ | with_reducible assumption | with_reducible refine Ext.pAlloc ?_ _ | ((with_reducible refine Ext.pSet ?_ ?_ _); rotate_left; (simp <;> omega)) | with_reducible refine Ext.pDrew ?_ | with_reducible refine Ext.pDrewN ?_ _ | with_reducible refine Ext.trans ?_ (by with_reducible assumption)))) (by omega)).mono ?_; rintro e w6 ⟨u_yD, v_yD, rfl, Ew6, O_yD⟩; obtain ⟨⟨b_yD, c_yD, rfl⟩, bb_yD, cc_yD, rfl⟩ := disk_take O_yD)
        | (go_at_call 17; refine (eqDisk_c _ _ d_D d_D _ (diskC.vext O_xD.view (by repeat (first | with_reducible exact Ext.refl _ | with_reducible assumption | with_reducible refine Ext.pAlloc ?_ _ | ((with_reducible refine Ext.pSet ?_ ?_ _); rotate_left; (simp <;> omega)) | with_reducible refine Ext.pDrew ?_ | with_reducible refine Ext.pDrewN ?_ _ | with_reducible refine Ext.trans ?_ (by with_reducible assumption)))) O_yD.view).mono ?_; rintro e w7 ⟨rfl, Ew7⟩)))
    have Ew7r : Ext w5 w7 := (Ext.drew _).trans (Ew6.trans Ew7)
    clear Ew6 Ew7 O_yD
    have Ew7rc : Ext w5 w7 := Ew7r
    replace O_xD := O_xD.ext Ew7rc
    replace B_AD_0 := cell_ext B_AD_0 Ew7rc
    replace B_AD_1 := cell_ext B_AD_1 Ew7rc
    replace B_xD_0 := cell_ext B_xD_0 Ew7rc
    replace B_xD_1 := cell_ext B_xD_1 Ew7rc
    have Sw7 : w5.heap.size ≤ w7.heap.size := by have := Ew7r.size; (try simp at this); omega
    replace X := X.trans Ew7rc
    clear Ew7r Ew7rc
    go_wp2
    go_ret
    exact ⟨rfl, X⟩

set_option maxRecDepth 100000 in
theorem exactsafein_holds : Rows.FnExactSafeInSaid :=
  OpenClaim.holds_of_wide 5 Try.f5 rfl rfl rfl rfl rfl rfl rfl ⟨rfl, rfl, rfl, rfl, rfl⟩ rfl rfl rfl rfl rfl (by kernel_rfl) Try.func5 (by kernel_rfl)
    (of_decide_eq_true (by kernel_rfl)) (by unfold Func.isWrapper; rw [if_neg (of_decide_eq_false (by kernel_rfl))]; exact ⟨rfl, rfl⟩)
    (fun os started H enc _ => law_lifted (C := Try.checked) (f := 5) (fn := Try.f5) (s := Rows.fnExactSafeInSpec) (tb := 4) Try.own started (by kernel_rfl) Try.func5 Try.laidOut (of_decide_eq_true (by kernel_rfl)) rfl Try.underlying4 rfl
      (fun ds h => by match ds, h with | [_], _ => exact ⟨rfl, rfl, rfl⟩)
      (ChangeSpec.witness6 (enc := enc) (C := Try.checked) false ⟨#[], #[.agg #[.slice none 0 0, .slice none 0 0]], []⟩ 8 (by kernel_rfl) (by kernel_rfl) (by kernel_rfl) (by kernel_rfl))
      exactsafein_c)

end Go.Proofs.Ytfakjcckgcgalaa
