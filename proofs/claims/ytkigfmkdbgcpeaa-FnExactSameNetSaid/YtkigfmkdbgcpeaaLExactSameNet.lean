/- The law FnExactSameNet is true for every input: it returns true, and what it was given reads as before. -/
import Derived.Test.YtkigfmkdbgcpeaaTied
import Derived.Test.YtkigfmkdbgcpeaaNt4
set_option linter.unusedVariables false
set_option linter.unusedSimpArgs false
namespace Go.Proofs.Ytkigfmkdbgcpeaa
open Go.RowKit Go.Sl

set_option maxRecDepth 100000 in
theorem tiedMsg : Tied Try.prog msgC 45 := Tied.struct3 Try.underlying45 ⟨rfl, rfl, rfl⟩ rfl rfl rfl rfl (Tied.int Try.underlying2) (Tied.int Try.underlying2) tiedRow
theorem msg_take {lo hi : Nat} {w : World} {v : Value} {m : MsgD} {f t : Int} (h : msgC.own lo hi w [.int .i64 f, .int .i64 t, v] m) : ∃ a cap, v = .slice a m.2.2.length cap := by
  obtain ⟨v', e, h'⟩ := msg_own.1 h
  cases e
  obtain ⟨a, cap, h1, _⟩ := row_take h'
  exact ⟨a, cap, h1⟩
theorem szMsg_small (m : MsgD) (q : Int) (h0 : -1 ≤ q) (h1 : q ≤ 1048576) : (-1 ≤ szI m.2.2.length q ∧ szI m.2.2.length q ≤ 1048576) ∧ (¬ szI m.2.2.length q < 0 → m.2.2.length ≤ 1048576) := by
  unfold szI
  split <;> constructor <;> omega

set_option maxRecDepth 100000 in
theorem tiedMsgs : Tied Try.prog msgsC 22 := Tied.slice Try.underlying22 rfl (by decide) tiedMsg
set_option maxRecDepth 100000 in
theorem tiedLink : Tied Try.prog linkC 99 := Tied.struct2 Try.underlying99 ⟨rfl, rfl⟩ rfl rfl rfl (Tied.int Try.underlying2) (Tied.int Try.underlying2)
set_option maxRecDepth 100000 in
theorem tiedLinks : Tied Try.prog linksC 23 := Tied.slice Try.underlying23 rfl (by decide) tiedLink
set_option maxRecDepth 100000 in
theorem tiedNet : Tied Try.prog netC 25 := Tied.struct2 Try.underlying25 ⟨rfl, rfl⟩ rfl rfl rfl tiedMsgs tiedLinks
theorem mcnt_msz (l : List MsgD) : cntL mcnt l = 2 * l.length + cntL msz l := by
  induction l with
  | nil => rfl
  | cons x l ih => simp only [cntL, ih, List.length_cons, mcnt, msz]; omega
theorem szNet_small (m : NetD) (q : Int) (h0 : -1 ≤ q) (h1 : q ≤ 1048576) : (-1 ≤ szI (nsz m) q ∧ szI (nsz m) q ≤ 1048576) ∧ (¬ szI (nsz m) q < 0 → nsmall m ∧ ncnt m ≤ 2097152) := by
  obtain ⟨h2, h3⟩ := nsz_small m q h0 h1
  refine ⟨h2, fun h => ⟨h3 h, ?_⟩⟩
  unfold szI at h
  unfold ncnt
  rw [mcnt_msz, cntL_lcnt]
  unfold nsz at h
  split at h <;> omega
theorem net_take {lo hi : Nat} {w : World} {u v : Value} {m : NetD} (h : netC.own lo hi w [u, v] m) : (∃ a c, u = .slice a m.1.length c) ∧ ∃ a c, v = .slice a m.2.length c := by
  obtain ⟨u', v', e, hu, hv⟩ := net_V.1 h.view
  cases e
  exact ⟨sl_form hu, sl_form hv⟩

set_option maxHeartbeats 4000000 in
set_option maxRecDepth 100000 in
theorem exactsamenet_c (W : World) (args : Array Value) (hs : args.size = 2) (h : ∀ (j : Nat) t v, Try.f4.params[j]? = some t → args[j]? = some v → ArgOk Try.prog W t v) :
    Calls Try.prog 4 args W fun e W' => e = .returned (.bool true) ∧ Ext W W' := by
  match args, hs with
  | ⟨[a0, a1]⟩, _ =>
    obtain ⟨cs_A, d_A, rfl, H_A'⟩ := (h 0 _ a0 rfl rfl).struct Try.underlying25 tiedNet
    have H_A : Hid (netC.V W cs_A d_A) := H_A'
    obtain ⟨u_A, v_A, rfl, _⟩ := net_V.1 H_A'; clear H_A'
    obtain ⟨cs_B, d_B, rfl, H_B'⟩ := (h 1 _ a1 rfl rfl).struct Try.underlying25 tiedNet
    have H_B : Hid (netC.V W cs_B d_B) := H_B'
    obtain ⟨u_B, v_B, rfl, _⟩ := net_V.1 H_B'; clear H_B'
    clear h
    have sz_A := szNet_small d_A 1048576 (by omega) (by omega)
    by_cases neg_A : szI (nsz d_A) 1048576 < 0
    · go_enter Try.func4, Try.ntmps4
      have X : Ext W W := Ext.refl W
      go_wp2_with fail
      refine (szNet_c _ d_A _ _ (netC.vext H_A.out (Ext.pAlloc (Ext.pAlloc (X) _) _)) (by omega) (by omega)).mono ?_
      rintro e w1 ⟨rfl, Ew1⟩
      have Ew1c : Ext W w1 := Ext.trans (Ext.pAlloc (Ext.pAlloc (Ext.refl _) _) _) Ew1
      have B_AA_0 : w1.cell? ⟨(W.heap.size), 0, none⟩ = some (u_A) := cell_ext (by simp [go_sem]) Ew1
      have B_AA_1 : w1.cell? ⟨(W.heap.size), 1, none⟩ = some (v_A) := cell_ext (by simp [go_sem]) Ew1
      have B_AB_0 : w1.cell? ⟨(W.heap.size + 1), 0, none⟩ = some (u_B) := cell_ext (by simp [go_sem]) Ew1
      have B_AB_1 : w1.cell? ⟨(W.heap.size + 1), 1, none⟩ = some (v_B) := cell_ext (by simp [go_sem]) Ew1
      have Sw1 : W.heap.size + 2 ≤ w1.heap.size := by have := Ew1.size; (try simp at this); omega
      replace X := X.trans Ew1c
      clear Ew1 Ew1c
      go_wp2
      go_ret
      exact ⟨rfl, by first | exact X | (repeat (first | with_reducible exact Ext.refl _ | with_reducible assumption | with_reducible refine Ext.pAlloc ?_ _ | ((with_reducible refine Ext.pSet ?_ ?_ _); rotate_left; (simp <;> omega)) | with_reducible refine Ext.pDrew ?_ | with_reducible refine Ext.pDrewN ?_ _ | with_reducible refine Ext.trans ?_ (by with_reducible assumption)))⟩
    have szb_A := sz_A.1
    replace sz_A := sz_A.2 neg_A
    have szc_A := sz_A.2
    replace sz_A := sz_A.1
    have sz_B := szNet_small d_B (szI (nsz d_A) 1048576) (by omega) (by omega)
    by_cases neg_B : szI (nsz d_B) (szI (nsz d_A) 1048576) < 0
    · go_enter Try.func4, Try.ntmps4
      have X : Ext W W := Ext.refl W
      go_wp2_with fail
      refine (szNet_c _ d_A _ _ (netC.vext H_A.out (Ext.pAlloc (Ext.pAlloc (X) _) _)) (by omega) (by omega)).mono ?_
      rintro e w1 ⟨rfl, Ew1⟩
      have Ew1c : Ext W w1 := Ext.trans (Ext.pAlloc (Ext.pAlloc (Ext.refl _) _) _) Ew1
      have B_AA_0 : w1.cell? ⟨(W.heap.size), 0, none⟩ = some (u_A) := cell_ext (by simp [go_sem]) Ew1
      have B_AA_1 : w1.cell? ⟨(W.heap.size), 1, none⟩ = some (v_A) := cell_ext (by simp [go_sem]) Ew1
      have B_AB_0 : w1.cell? ⟨(W.heap.size + 1), 0, none⟩ = some (u_B) := cell_ext (by simp [go_sem]) Ew1
      have B_AB_1 : w1.cell? ⟨(W.heap.size + 1), 1, none⟩ = some (v_B) := cell_ext (by simp [go_sem]) Ew1
      have Sw1 : W.heap.size + 2 ≤ w1.heap.size := by have := Ew1.size; (try simp at this); omega
      replace X := X.trans Ew1c
      clear Ew1 Ew1c
      go_wp2_with fail
      refine (szNet_c _ d_B _ _ (netC.vext H_B.out (X)) (by omega) (by omega)).mono ?_
      rintro e w2 ⟨rfl, Ew2⟩
      have Ew2c : Ext w1 w2 := Ew2
      replace B_AA_0 := cell_ext B_AA_0 Ew2c
      replace B_AA_1 := cell_ext B_AA_1 Ew2c
      replace B_AB_0 := cell_ext B_AB_0 Ew2c
      replace B_AB_1 := cell_ext B_AB_1 Ew2c
      have Sw2 : w1.heap.size ≤ w2.heap.size := by have := Ew2.size; (try simp at this); omega
      replace X := X.trans Ew2c
      clear Ew2 Ew2c
      go_wp2
      go_ret
      exact ⟨rfl, by first | exact X | (repeat (first | with_reducible exact Ext.refl _ | with_reducible assumption | with_reducible refine Ext.pAlloc ?_ _ | ((with_reducible refine Ext.pSet ?_ ?_ _); rotate_left; (simp <;> omega)) | with_reducible refine Ext.pDrew ?_ | with_reducible refine Ext.pDrewN ?_ _ | with_reducible refine Ext.trans ?_ (by with_reducible assumption)))⟩
    have szb_B := sz_B.1
    replace sz_B := sz_B.2 neg_B
    have szc_B := sz_B.2
    replace sz_B := sz_B.1
    go_enter Try.func4, Try.ntmps4
    have X : Ext W W := Ext.refl W
    go_wp2_with fail
    refine (szNet_c _ d_A _ _ (netC.vext H_A.out (Ext.pAlloc (Ext.pAlloc (X) _) _)) (by omega) (by omega)).mono ?_
    rintro e w1 ⟨rfl, Ew1⟩
    have Ew1c : Ext W w1 := Ext.trans (Ext.pAlloc (Ext.pAlloc (Ext.refl _) _) _) Ew1
    have B_AA_0 : w1.cell? ⟨(W.heap.size), 0, none⟩ = some (u_A) := cell_ext (by simp [go_sem]) Ew1
    have B_AA_1 : w1.cell? ⟨(W.heap.size), 1, none⟩ = some (v_A) := cell_ext (by simp [go_sem]) Ew1
    have B_AB_0 : w1.cell? ⟨(W.heap.size + 1), 0, none⟩ = some (u_B) := cell_ext (by simp [go_sem]) Ew1
    have B_AB_1 : w1.cell? ⟨(W.heap.size + 1), 1, none⟩ = some (v_B) := cell_ext (by simp [go_sem]) Ew1
    have Sw1 : W.heap.size + 2 ≤ w1.heap.size := by have := Ew1.size; (try simp at this); omega
    replace X := X.trans Ew1c
    clear Ew1 Ew1c
    go_wp2_with fail
    refine (szNet_c _ d_B _ _ (netC.vext H_B.out (X)) (by omega) (by omega)).mono ?_
    rintro e w2 ⟨rfl, Ew2⟩
    have Ew2c : Ext w1 w2 := Ew2
    replace B_AA_0 := cell_ext B_AA_0 Ew2c
    replace B_AA_1 := cell_ext B_AA_1 Ew2c
    replace B_AB_0 := cell_ext B_AB_0 Ew2c
    replace B_AB_1 := cell_ext B_AB_1 Ew2c
    have Sw2 : w1.heap.size ≤ w2.heap.size := by have := Ew2.size; (try simp at this); omega
    replace X := X.trans Ew2c
    clear Ew2 Ew2c
    go_wp2
    refine wp_region_held_drew (S := fun ω => ω.cell? ⟨(W.heap.size), 0, none⟩ = some (u_A) ∧ ω.cell? ⟨(W.heap.size), 1, none⟩ = some (v_A) ∧ ω.cell? ⟨(W.heap.size + 1), 0, none⟩ = some (u_B) ∧ ω.cell? ⟨(W.heap.size + 1), 1, none⟩ = some (v_B) ∧ Ext w2 ω) (by kernel_rfl) ?_ (fun hHeld => ?_)
    · (try dsimp only); exact ⟨cell_ext B_AA_0 (Ext.drew _), cell_ext B_AA_1 (Ext.drew _), cell_ext B_AB_0 (Ext.drew _), cell_ext B_AB_1 (Ext.drew _), Ext.drew _⟩
    refine wpAnyH_take (i := 0) (v := ?_) rfl (by kernel_rfl) (by kernel_rfl) (by kernel_rfl) (fun _ _ _ h => h) (Or.inl ⟨by rfl, ?_⟩) (by assumption) ?_
    rotate_left
    · intro w9 hSw; (try dsimp only at hSw); go_simp; (first | done | with_reducible rfl)
    (try simp only [List.getElem_toArray, List.getElem_cons_succ, List.getElem_cons_zero, Act.put, List.setIfInBounds_toArray, List.set_cons_zero, List.set_cons_succ])
    refine wpAnyH_take (i := 2) (v := ?_) rfl (by kernel_rfl) (by kernel_rfl) (by kernel_rfl) (fun _ _ _ h => h) (Or.inl ⟨by rfl, ?_⟩) (by assumption) ?_
    rotate_left
    · intro w9 hSw; (try dsimp only at hSw); go_simp; (first | done | with_reducible rfl)
    (try simp only [List.getElem_toArray, List.getElem_cons_succ, List.getElem_cons_zero, Act.put, List.setIfInBounds_toArray, List.set_cons_zero, List.set_cons_succ])
    refine wpAnyH_ready (rs := [1]) (by kernel_rfl) (by simp) ?_
    refine AllReadyH.cons rfl (fun K hK => ?_) AllReadyH.nil
    go_simp
    refine (toNet_c _ d_A _ (netC.vext H_A.out (X.trans hHeld.2.2.2.2)) (by first | omega | exact sz_A)).mono ?_
    rintro e w3 ⟨u_tA, v_tA, rfl, Ew3, O_tA⟩
    obtain ⟨⟨b_tA, c_tA, rfl⟩, bb_tA, cc_tA, rfl⟩ := net_take O_tA
    (try go_wp2_with fail)
    refine hK.out _ _ ?_ (fun hHeld2 => ?_)
    · (try dsimp only); (obtain ⟨s0, s1, s2, s3, s4⟩ := hHeld; exact ⟨cell_ext s0 Ew3, cell_ext s1 Ew3, cell_ext s2 Ew3, cell_ext s3 Ew3, s4.trans Ew3⟩)
    clear hK K hHeld
    rename _ => hHeld
    (try simp only [List.getElem_toArray, List.getElem_cons_succ, List.getElem_cons_zero, Act.put, List.setIfInBounds_toArray, List.set_cons_zero, List.set_cons_succ])
    refine wpAnyH_ready (rs := [3]) (by kernel_rfl) (by simp) ?_
    refine AllReadyH.cons rfl (fun K hK => ?_) AllReadyH.nil
    go_simp
    refine (toNet_c _ d_B _ (netC.vext H_B.out (X.trans hHeld.2.2.2.2)) (by first | omega | exact sz_B)).mono ?_
    rintro e w4 ⟨u_tB, v_tB, rfl, Ew4, O_tB⟩
    obtain ⟨⟨b_tB, c_tB, rfl⟩, bb_tB, cc_tB, rfl⟩ := net_take O_tB
    replace O_tA := O_tA.ext Ew4
    (try go_wp2_with fail)
    refine hK.out _ _ ?_ (fun hHeld2 => ?_)
    · (try dsimp only); (obtain ⟨s0, s1, s2, s3, s4⟩ := hHeld; exact ⟨cell_ext s0 Ew4, cell_ext s1 Ew4, cell_ext s2 Ew4, cell_ext s3 Ew4, s4.trans Ew4⟩)
    clear hK K hHeld
    rename _ => hHeld
    (try simp only [List.getElem_toArray, List.getElem_cons_succ, List.getElem_cons_zero, Act.put, List.setIfInBounds_toArray, List.set_cons_zero, List.set_cons_succ])
    refine wpAnyH_ready (rs := [4]) (by kernel_rfl) (by simp) ?_
    refine AllReadyH.cons rfl (fun K hK => ?_) AllReadyH.nil
    go_simp
    refine (specSameNet_c _ _ _ _ _ O_tA.view O_tB.view).mono ?_
    rintro e w5 ⟨rfl, Ew5⟩
    (try go_wp2_with fail)
    refine hK.out _ _ ?_ (fun hHeld2 => ?_)
    · (try dsimp only); (obtain ⟨s0, s1, s2, s3, s4⟩ := hHeld; exact ⟨cell_ext s0 Ew5, cell_ext s1 Ew5, cell_ext s2 Ew5, cell_ext s3 Ew5, s4.trans Ew5⟩)
    clear hK K hHeld
    rename _ => hHeld
    (try simp only [List.getElem_toArray, List.getElem_cons_succ, List.getElem_cons_zero, Act.put, List.setIfInBounds_toArray, List.set_cons_zero, List.set_cons_succ])
    refine wpAnyH_take (i := 5) (v := ?_) rfl (by kernel_rfl) (by kernel_rfl) (by kernel_rfl) (fun _ _ _ h => h) (Or.inl ⟨by rfl, ?_⟩) (by assumption) ?_
    rotate_left
    · intro w9 hSw; (try dsimp only at hSw); go_simp; (first | done | with_reducible rfl)
    (try simp only [List.getElem_toArray, List.getElem_cons_succ, List.getElem_cons_zero, Act.put, List.setIfInBounds_toArray, List.set_cons_zero, List.set_cons_succ])
    refine wpAnyH_done (by kernel_rfl) ?_ _
    have Ew5r : Ext w2 w5 := hHeld.2.2.2.2
    clear hHeld Ew5 O_tA O_tB
    have Ew5rc : Ext w2 w5 := Ew5r
    replace B_AA_0 := cell_ext B_AA_0 Ew5rc
    replace B_AA_1 := cell_ext B_AA_1 Ew5rc
    replace B_AB_0 := cell_ext B_AB_0 Ew5rc
    replace B_AB_1 := cell_ext B_AB_1 Ew5rc
    have Sw5 : w2.heap.size ≤ w5.heap.size := by have := Ew5r.size; (try simp at this); omega
    replace X := X.trans Ew5rc
    clear Ew5r Ew5rc
    go_wp2_with fail
    refine (toNet_c _ d_A _ (netC.vext H_A.out (X)) (by first | omega | exact sz_A)).mono ?_
    rintro e w6 ⟨u_xA, v_xA, rfl, Ew6, O_xA⟩
    replace O_xA := O_xA.wide (lo' := w5.heap.size) (hi' := w6.heap.size) (by simp) (Nat.le_refl _)
    have Ew6c : Ext w5 w6 := Ew6
    replace B_AA_0 := cell_ext B_AA_0 Ew6c
    replace B_AA_1 := cell_ext B_AA_1 Ew6c
    replace B_AB_0 := cell_ext B_AB_0 Ew6c
    replace B_AB_1 := cell_ext B_AB_1 Ew6c
    have Sw6 : w5.heap.size ≤ w6.heap.size := by have := Ew6.size; (try simp at this); omega
    replace X := X.trans Ew6c
    clear Ew6 Ew6c
    obtain ⟨⟨b_xA, c_xA, rfl⟩, bb_xA, cc_xA, rfl⟩ := net_take O_xA
    have N_AA_0 : (W.heap.size) < w6.heap.size := by omega
    have N_AB_0 : (W.heap.size + 1) < w6.heap.size := by omega
    go_wp2_with fail
    refine (toNet_c _ d_B _ (netC.vext H_B.out (Ext.pAlloc (X) _)) (by first | omega | exact sz_B)).mono ?_
    rintro e w7 ⟨u_xB, v_xB, rfl, Ew7, O_xB⟩
    replace O_xB := O_xB.wide (lo' := w6.heap.size + 1) (hi' := w7.heap.size) (by simp) (Nat.le_refl _)
    have Ew7c : Ext w6 w7 := Ext.trans (Ext.pAlloc (Ext.refl _) _) Ew7
    replace O_xA := O_xA.ext Ew7c
    replace B_AA_0 := cell_ext B_AA_0 Ew7c
    replace B_AA_1 := cell_ext B_AA_1 Ew7c
    replace B_AB_0 := cell_ext B_AB_0 Ew7c
    replace B_AB_1 := cell_ext B_AB_1 Ew7c
    have B_xA_0 : w7.cell? ⟨(w6.heap.size), 0, none⟩ = some (.slice b_xA (d_A).1.length c_xA) := cell_ext (by simp [go_sem]) Ew7
    have B_xA_1 : w7.cell? ⟨(w6.heap.size), 1, none⟩ = some (.slice bb_xA (d_A).2.length cc_xA) := cell_ext (by simp [go_sem]) Ew7
    have Sw7 : w6.heap.size + 1 ≤ w7.heap.size := by have := Ew7.size; (try simp at this); omega
    replace X := X.trans Ew7c
    clear Ew7 Ew7c
    obtain ⟨⟨b_xB, c_xB, rfl⟩, bb_xB, cc_xB, rfl⟩ := net_take O_xB
    have N_AA_0 : (W.heap.size) < w7.heap.size := by omega
    have N_AB_0 : (W.heap.size + 1) < w7.heap.size := by omega
    have N_xA_0 : (w6.heap.size) < w7.heap.size := by omega
    go_wp2_with fail
    refine (implSameNet_c _ _ _ _ _ (O_xA.ext (Ext.pAlloc (Ext.refl _) _)).view (O_xB.ext (Ext.pAlloc (Ext.refl _) _)).view).mono ?_
    rintro e w8 ⟨rfl, Ew8⟩
    have Ew8c : Ext w7 w8 := Ext.trans (Ext.pAlloc (Ext.refl _) _) Ew8
    replace O_xA := O_xA.ext Ew8c
    replace O_xB := O_xB.ext Ew8c
    replace B_AA_0 := cell_ext B_AA_0 Ew8c
    replace B_AA_1 := cell_ext B_AA_1 Ew8c
    replace B_AB_0 := cell_ext B_AB_0 Ew8c
    replace B_AB_1 := cell_ext B_AB_1 Ew8c
    replace B_xA_0 := cell_ext B_xA_0 Ew8c
    replace B_xA_1 := cell_ext B_xA_1 Ew8c
    have B_xB_0 : w8.cell? ⟨(w7.heap.size), 0, none⟩ = some (.slice b_xB (d_B).1.length c_xB) := cell_ext (by simp [go_sem]) Ew8
    have B_xB_1 : w8.cell? ⟨(w7.heap.size), 1, none⟩ = some (.slice bb_xB (d_B).2.length cc_xB) := cell_ext (by simp [go_sem]) Ew8
    have Sw8 : w7.heap.size + 1 ≤ w8.heap.size := by have := Ew8.size; (try simp at this); omega
    replace X := X.trans Ew8c
    clear Ew8 Ew8c
    go_wp2
    go_region_held3 (fun ω => ω.cell? ⟨(w6.heap.size), 0, none⟩ = some (.slice b_xA (d_A).1.length c_xA) ∧ ω.cell? ⟨(w6.heap.size), 1, none⟩ = some (.slice bb_xA (d_A).2.length cc_xA) ∧ ω.cell? ⟨(W.heap.size), 0, none⟩ = some (u_A) ∧ ω.cell? ⟨(W.heap.size), 1, none⟩ = some (v_A) ∧ Ext w8 ω)
      ((refine ⟨cell_ext B_xA_0 ?_, cell_ext B_xA_1 ?_, cell_ext B_AA_0 ?_, cell_ext B_AA_1 ?_, ?_⟩ <;> (repeat (first | with_reducible exact Ext.refl _ | with_reducible assumption | with_reducible refine Ext.pAlloc ?_ _ | ((with_reducible refine Ext.pSet ?_ ?_ _); rotate_left; (simp <;> omega)) | with_reducible refine Ext.pDrew ?_ | with_reducible refine Ext.pDrewN ?_ _ | with_reducible refine Ext.trans ?_ (by with_reducible assumption)))))
      ((first
        | (go_at_call 17; refine (toNet_c _ d_A _ (netC.vext H_A.out (by repeat (first | with_reducible exact Ext.refl _ | with_reducible assumption | with_reducible refine Ext.pAlloc ?_ _ | ((with_reducible refine Ext.pSet ?_ ?_ _); rotate_left; (simp <;> omega)) | with_reducible refine Ext.pDrew ?_ | with_reducible refine Ext.pDrewN ?_ _ | with_reducible refine Ext.trans ?_ (by with_reducible assumption)))) (by first | omega | exact sz_A)).mono ?_; rintro e w9 ⟨u_yA, v_yA, rfl, Ew9, O_yA⟩; obtain ⟨⟨b_yA, c_yA, rfl⟩, bb_yA, cc_yA, rfl⟩ := net_take O_yA)
        | (go_at_call 19; refine (eqNet_c _ _ d_A d_A _ (netC.vext O_xA.view (by repeat (first | with_reducible exact Ext.refl _ | with_reducible assumption | with_reducible refine Ext.pAlloc ?_ _ | ((with_reducible refine Ext.pSet ?_ ?_ _); rotate_left; (simp <;> omega)) | with_reducible refine Ext.pDrew ?_ | with_reducible refine Ext.pDrewN ?_ _ | with_reducible refine Ext.trans ?_ (by with_reducible assumption)))) O_yA.view).mono ?_; rintro e w10 ⟨rfl, Ew10⟩)))
    have Ew10r : Ext w8 w10 := (Ext.drew _).trans (Ew9.trans Ew10)
    clear Ew9 Ew10 O_yA
    have Ew10rc : Ext w8 w10 := Ew10r
    replace O_xA := O_xA.ext Ew10rc
    replace O_xB := O_xB.ext Ew10rc
    replace B_AA_0 := cell_ext B_AA_0 Ew10rc
    replace B_AA_1 := cell_ext B_AA_1 Ew10rc
    replace B_AB_0 := cell_ext B_AB_0 Ew10rc
    replace B_AB_1 := cell_ext B_AB_1 Ew10rc
    replace B_xA_0 := cell_ext B_xA_0 Ew10rc
    replace B_xA_1 := cell_ext B_xA_1 Ew10rc
    replace B_xB_0 := cell_ext B_xB_0 Ew10rc
    replace B_xB_1 := cell_ext B_xB_1 Ew10rc
    have Sw10 : w8.heap.size ≤ w10.heap.size := by have := Ew10r.size; (try simp at this); omega
    replace X := X.trans Ew10rc
    clear Ew10r Ew10rc
    go_wp2
    go_region_held3 (fun ω => ω.cell? ⟨(w7.heap.size), 0, none⟩ = some (.slice b_xB (d_B).1.length c_xB) ∧ ω.cell? ⟨(w7.heap.size), 1, none⟩ = some (.slice bb_xB (d_B).2.length cc_xB) ∧ ω.cell? ⟨(W.heap.size + 1), 0, none⟩ = some (u_B) ∧ ω.cell? ⟨(W.heap.size + 1), 1, none⟩ = some (v_B) ∧ Ext w10 ω)
      ((refine ⟨cell_ext B_xB_0 ?_, cell_ext B_xB_1 ?_, cell_ext B_AB_0 ?_, cell_ext B_AB_1 ?_, ?_⟩ <;> (repeat (first | with_reducible exact Ext.refl _ | with_reducible assumption | with_reducible refine Ext.pAlloc ?_ _ | ((with_reducible refine Ext.pSet ?_ ?_ _); rotate_left; (simp <;> omega)) | with_reducible refine Ext.pDrew ?_ | with_reducible refine Ext.pDrewN ?_ _ | with_reducible refine Ext.trans ?_ (by with_reducible assumption)))))
      ((first
        | (go_at_call 17; refine (toNet_c _ d_B _ (netC.vext H_B.out (by repeat (first | with_reducible exact Ext.refl _ | with_reducible assumption | with_reducible refine Ext.pAlloc ?_ _ | ((with_reducible refine Ext.pSet ?_ ?_ _); rotate_left; (simp <;> omega)) | with_reducible refine Ext.pDrew ?_ | with_reducible refine Ext.pDrewN ?_ _ | with_reducible refine Ext.trans ?_ (by with_reducible assumption)))) (by first | omega | exact sz_B)).mono ?_; rintro e w11 ⟨u_yB, v_yB, rfl, Ew11, O_yB⟩; obtain ⟨⟨b_yB, c_yB, rfl⟩, bb_yB, cc_yB, rfl⟩ := net_take O_yB)
        | (go_at_call 19; refine (eqNet_c _ _ d_B d_B _ (netC.vext O_xB.view (by repeat (first | with_reducible exact Ext.refl _ | with_reducible assumption | with_reducible refine Ext.pAlloc ?_ _ | ((with_reducible refine Ext.pSet ?_ ?_ _); rotate_left; (simp <;> omega)) | with_reducible refine Ext.pDrew ?_ | with_reducible refine Ext.pDrewN ?_ _ | with_reducible refine Ext.trans ?_ (by with_reducible assumption)))) O_yB.view).mono ?_; rintro e w12 ⟨rfl, Ew12⟩)))
    have Ew12r : Ext w10 w12 := (Ext.drew _).trans (Ew11.trans Ew12)
    clear Ew11 Ew12 O_yB
    have Ew12rc : Ext w10 w12 := Ew12r
    replace O_xA := O_xA.ext Ew12rc
    replace O_xB := O_xB.ext Ew12rc
    replace B_AA_0 := cell_ext B_AA_0 Ew12rc
    replace B_AA_1 := cell_ext B_AA_1 Ew12rc
    replace B_AB_0 := cell_ext B_AB_0 Ew12rc
    replace B_AB_1 := cell_ext B_AB_1 Ew12rc
    replace B_xA_0 := cell_ext B_xA_0 Ew12rc
    replace B_xA_1 := cell_ext B_xA_1 Ew12rc
    replace B_xB_0 := cell_ext B_xB_0 Ew12rc
    replace B_xB_1 := cell_ext B_xB_1 Ew12rc
    have Sw12 : w10.heap.size ≤ w12.heap.size := by have := Ew12r.size; (try simp at this); omega
    replace X := X.trans Ew12rc
    clear Ew12r Ew12rc
    go_wp2
    go_ret
    exact ⟨rfl, X⟩

set_option maxRecDepth 100000 in
theorem exactsamenet_holds : Rows.FnExactSameNetSaid :=
  OpenClaim.holds_of_wide 4 Try.f4 rfl rfl rfl rfl rfl rfl rfl ⟨rfl, rfl, rfl, rfl, rfl⟩ rfl rfl rfl rfl rfl (by kernel_rfl) Try.func4 (by kernel_rfl)
    (of_decide_eq_true (by kernel_rfl)) (by unfold Func.isWrapper; rw [if_neg (of_decide_eq_false (by kernel_rfl))]; exact ⟨rfl, rfl⟩)
    (fun os started H enc _ => law_lifted (C := Try.checked) (f := 4) (fn := Try.f4) (s := Rows.fnExactSameNetSpec) (tb := 4) Try.own started (by kernel_rfl) Try.func4 Try.laidOut (of_decide_eq_true (by kernel_rfl)) rfl Try.underlying4 rfl
      (fun ds h => by match ds, h with | [_, _], _ => exact ⟨rfl, rfl, rfl⟩)
      (ChangeSpec.witness6 (enc := enc) (C := Try.checked) false ⟨#[], #[.agg #[.slice none 0 0, .slice none 0 0], .agg #[.slice none 0 0, .slice none 0 0]], []⟩ 8 (by kernel_rfl) (by kernel_rfl) (by kernel_rfl) (by kernel_rfl))
      exactsamenet_c)

end Go.Proofs.Ytkigfmkdbgcpeaa
