/- The law FnExactSent is true for every input: it returns true, and what it was given reads as before. -/
import Derived.Test.YtkigfmkdbgcpeaaTied
import Derived.Test.YtkigfmkdbgcpeaaNt8
import Derived.Deep.DeepCutAuto
set_option linter.unusedVariables false
set_option linter.unusedSimpArgs false
namespace Go.Proofs.Ytkigfmkdbgcpeaa
open Go.RowKit Go.Sl

set_option maxRecDepth 100000 in
theorem tiedMsg : Tied Try.prog msgC 45 := Tied.struct3 Try.underlying45 ⟨rfl, rfl, rfl⟩ rfl rfl rfl rfl (Tied.int Try.underlying2) (Tied.int Try.underlying2) tiedRow
theorem msg_take {lo hi : Nat} {w : World} {v : Value} {m : MsgD} {f t : Int} (h : msgC.own lo hi w [.int .i64 f, .int .i64 t, v] m) : ∃ a cap, v = .slice a m.2.2.length cap := by
  obtain ⟨v', e, h'⟩ := msg_own.1 h
  cases e
  obtain ⟨a, cap, h1, _⟩ := row_take h'
  exact ⟨a, cap, h1⟩
theorem szMsg_small (m : MsgD) (q : Int) (h0 : -1 ≤ q) (h1 : q ≤ 1048576) : (-1 ≤ szI m.2.2.length q ∧ szI m.2.2.length q ≤ 1048576) ∧ (¬ szI m.2.2.length q < 0 → m.2.2.length ≤ 1048576) := by
  unfold szI
  split <;> constructor <;> omega

set_option maxRecDepth 100000 in
theorem tiedMsgs : Tied Try.prog msgsC 22 := Tied.slice Try.underlying22 rfl (by decide) tiedMsg
set_option maxRecDepth 100000 in
theorem tiedLink : Tied Try.prog linkC 99 := Tied.struct2 Try.underlying99 ⟨rfl, rfl⟩ rfl rfl rfl (Tied.int Try.underlying2) (Tied.int Try.underlying2)
set_option maxRecDepth 100000 in
theorem tiedLinks : Tied Try.prog linksC 23 := Tied.slice Try.underlying23 rfl (by decide) tiedLink
set_option maxRecDepth 100000 in
theorem tiedNet : Tied Try.prog netC 25 := Tied.struct2 Try.underlying25 ⟨rfl, rfl⟩ rfl rfl rfl tiedMsgs tiedLinks
theorem mcnt_msz (l : List MsgD) : cntL mcnt l = 2 * l.length + cntL msz l := by
  induction l with
  | nil => rfl
  | cons x l ih => simp only [cntL, ih, List.length_cons, mcnt, msz]; omega
theorem szNet_small (m : NetD) (q : Int) (h0 : -1 ≤ q) (h1 : q ≤ 1048576) : (-1 ≤ szI (nsz m) q ∧ szI (nsz m) q ≤ 1048576) ∧ (¬ szI (nsz m) q < 0 → nsmall m ∧ ncnt m ≤ 2097152) := by
  obtain ⟨h2, h3⟩ := nsz_small m q h0 h1
  refine ⟨h2, fun h => ⟨h3 h, ?_⟩⟩
  unfold szI at h
  unfold ncnt
  rw [mcnt_msz, cntL_lcnt]
  unfold nsz at h
  split at h <;> omega
theorem net_take {lo hi : Nat} {w : World} {u v : Value} {m : NetD} (h : netC.own lo hi w [u, v] m) : (∃ a c, u = .slice a m.1.length c) ∧ ∃ a c, v = .slice a m.2.length c := by
  obtain ⟨u', v', e, hu, hv⟩ := net_V.1 h.view
  cases e
  exact ⟨sl_form hu, sl_form hv⟩

theorem cntL_le {α : Type} (cnt : α → Nat) (m : Nat) (l : List α) (h : ∀ x ∈ l, cnt x ≤ m) : cntL cnt l ≤ l.length * m := by
  induction l with
  | nil => simp [cntL]
  | cons x l ih =>
    have h1 := h x (by simp)
    have h2 := ih (fun y hy => h y (by simp [hy]))
    simp only [cntL, List.length_cons, Nat.add_mul]; omega
theorem net_cnt (d : NetD) (h1 : ∀ x ∈ d.1, x.2.2.length ≤ 48) (h3 : d.1.length ≤ 61) (h4 : d.2.length ≤ 16) : ncnt d ≤ 4096 := by
  have a := cntL_le mcnt 50 d.1 (fun x hx => by have := h1 x hx; unfold mcnt; omega)
  have b := cntL_lcnt d.2
  unfold ncnt
  omega
theorem netOk_cnt {d : NetD} (h : netOk d = true) : ncnt d ≤ 4096 := net_cnt d (netOk_rows h) (by have := (netOk_lens h).1; omega) (by have := (netOk_lens h).2; omega)
theorem cell_alloc2 {w : World} {o o' : Obj} {b j : Nat} {v : Value} (h : (w.alloc o).cell? ⟨b, j, none⟩ = some v) (hb : b < w.heap.size) : (w.alloc o').cell? ⟨b, j, none⟩ = some v := by
  rw [(Ext.alloc w o').cell hb, ← (Ext.alloc w o).cell hb]; exact h
theorem own_two {lo hi X : Nat} {w : World} {cs : List Value} {x : NetD} (h : netC.own lo hi w cs x) (hx : X < lo ∨ hi ≤ X) (u v : Value) : netC.own lo hi ((w.setCell ⟨X, 0, none⟩ u).setCell ⟨X, 1, none⟩ v) cs x := Cd.own.pSet (Cd.own.pSet h hx _) hx _
theorem sent_cnt (d : NetD) (m : MsgD) : ncnt (sent d m).1 ≤ 4096 := by
  unfold sent
  split
  · rename_i h
    obtain ⟨h1, h2⟩ := netOk_lens h.1
    split
    · exact netOk_cnt h.1
    · refine net_cnt _ (fun x hx => ?_) (by simp; omega) (by dsimp only; omega)
      rcases List.mem_append.1 hx with hx | hx
      · exact netOk_rows h.1 x hx
      · rw [List.mem_singleton.1 hx]; exact msgOk_len h.2
  · decide

set_option maxHeartbeats 4000000 in
set_option maxRecDepth 100000 in
theorem exactsent_c (W : World) (args : Array Value) (hs : args.size = 2) (h : ∀ (j : Nat) t v, Try.f7.params[j]? = some t → args[j]? = some v → ArgOk Try.prog W t v) :
    Calls Try.prog 7 args W fun e W' => e = .returned (.bool true) ∧ Ext W W' := by
  match args, hs with
  | ⟨[a0, a1]⟩, _ =>
    obtain ⟨cs_N, d_N, rfl, H_N'⟩ := (h 0 _ a0 rfl rfl).struct Try.underlying25 tiedNet
    have H_N : Hid (netC.V W cs_N d_N) := H_N'
    obtain ⟨u_N, v_N, rfl, _⟩ := net_V.1 H_N'; clear H_N'
    obtain ⟨cs_M, d_M, rfl, H_M'⟩ := (h 1 _ a1 rfl rfl).struct Try.underlying45 tiedMsg
    have H_M : Hid (msgC.V W cs_M d_M) := H_M'
    obtain ⟨v_M, rfl, _⟩ := msg_V.1 H_M'; clear H_M'
    clear h
    have bnd := sent_cnt d_N d_M
    have sz_N := szNet_small d_N 1048576 (by omega) (by omega)
    by_cases neg_N : szI (nsz d_N) 1048576 < 0
    · go_enter Try.func7, Try.ntmps7
      have X : Ext W W := Ext.refl W
      go_wp2_with fail
      refine (szNet_c _ d_N _ _ (netC.vext H_N.out (Ext.pAlloc (Ext.pAlloc (X) _) _)) (by omega) (by omega)).mono ?_
      rintro e w1 ⟨rfl, Ew1⟩
      have Ew1c : Ext W w1 := Ext.trans (Ext.pAlloc (Ext.pAlloc (Ext.refl _) _) _) Ew1
      have B_AN_0 : w1.cell? ⟨(W.heap.size), 0, none⟩ = some (u_N) := cell_ext (by simp [go_sem]) Ew1
      have B_AN_1 : w1.cell? ⟨(W.heap.size), 1, none⟩ = some (v_N) := cell_ext (by simp [go_sem]) Ew1
      have B_AM_0 : w1.cell? ⟨(W.heap.size + 1), 0, none⟩ = some (.int .i64 (d_M).1) := cell_ext (by simp [go_sem]) Ew1
      have B_AM_1 : w1.cell? ⟨(W.heap.size + 1), 1, none⟩ = some (.int .i64 (d_M).2.1) := cell_ext (by simp [go_sem]) Ew1
      have B_AM_2 : w1.cell? ⟨(W.heap.size + 1), 2, none⟩ = some (v_M) := cell_ext (by simp [go_sem]) Ew1
      have Sw1 : W.heap.size + 2 ≤ w1.heap.size := by have := Ew1.size; (try simp at this); omega
      replace X := X.trans Ew1c
      clear Ew1 Ew1c
      go_wp2
      go_ret
      exact ⟨rfl, by first | exact X | (repeat (first | with_reducible exact Ext.refl _ | with_reducible assumption | with_reducible refine Ext.pAlloc ?_ _ | ((with_reducible refine Ext.pSet ?_ ?_ _); rotate_left; (simp <;> omega)) | with_reducible refine Ext.pDrew ?_ | with_reducible refine Ext.pDrewN ?_ _ | with_reducible refine Ext.trans ?_ (by with_reducible assumption)))⟩
    have szb_N := sz_N.1
    replace sz_N := sz_N.2 neg_N
    have szc_N := sz_N.2
    replace sz_N := sz_N.1
    have sz_M := szMsg_small d_M (szI (nsz d_N) 1048576) (by omega) (by omega)
    by_cases neg_M : szI (d_M).2.2.length (szI (nsz d_N) 1048576) < 0
    · go_enter Try.func7, Try.ntmps7
      have X : Ext W W := Ext.refl W
      go_wp2_with fail
      refine (szNet_c _ d_N _ _ (netC.vext H_N.out (Ext.pAlloc (Ext.pAlloc (X) _) _)) (by omega) (by omega)).mono ?_
      rintro e w1 ⟨rfl, Ew1⟩
      have Ew1c : Ext W w1 := Ext.trans (Ext.pAlloc (Ext.pAlloc (Ext.refl _) _) _) Ew1
      have B_AN_0 : w1.cell? ⟨(W.heap.size), 0, none⟩ = some (u_N) := cell_ext (by simp [go_sem]) Ew1
      have B_AN_1 : w1.cell? ⟨(W.heap.size), 1, none⟩ = some (v_N) := cell_ext (by simp [go_sem]) Ew1
      have B_AM_0 : w1.cell? ⟨(W.heap.size + 1), 0, none⟩ = some (.int .i64 (d_M).1) := cell_ext (by simp [go_sem]) Ew1
      have B_AM_1 : w1.cell? ⟨(W.heap.size + 1), 1, none⟩ = some (.int .i64 (d_M).2.1) := cell_ext (by simp [go_sem]) Ew1
      have B_AM_2 : w1.cell? ⟨(W.heap.size + 1), 2, none⟩ = some (v_M) := cell_ext (by simp [go_sem]) Ew1
      have Sw1 : W.heap.size + 2 ≤ w1.heap.size := by have := Ew1.size; (try simp at this); omega
      replace X := X.trans Ew1c
      clear Ew1 Ew1c
      go_wp2_with fail
      refine (szMsg_c _ d_M _ _ (msgC.vext H_M.out (X)) (by omega) (by omega)).mono ?_
      rintro e w2 ⟨rfl, Ew2⟩
      have Ew2c : Ext w1 w2 := Ew2
      replace B_AN_0 := cell_ext B_AN_0 Ew2c
      replace B_AN_1 := cell_ext B_AN_1 Ew2c
      replace B_AM_0 := cell_ext B_AM_0 Ew2c
      replace B_AM_1 := cell_ext B_AM_1 Ew2c
      replace B_AM_2 := cell_ext B_AM_2 Ew2c
      have Sw2 : w1.heap.size ≤ w2.heap.size := by have := Ew2.size; (try simp at this); omega
      replace X := X.trans Ew2c
      clear Ew2 Ew2c
      go_wp2
      go_ret
      exact ⟨rfl, by first | exact X | (repeat (first | with_reducible exact Ext.refl _ | with_reducible assumption | with_reducible refine Ext.pAlloc ?_ _ | ((with_reducible refine Ext.pSet ?_ ?_ _); rotate_left; (simp <;> omega)) | with_reducible refine Ext.pDrew ?_ | with_reducible refine Ext.pDrewN ?_ _ | with_reducible refine Ext.trans ?_ (by with_reducible assumption)))⟩
    have szb_M := sz_M.1
    replace sz_M := sz_M.2 neg_M
    go_enter Try.func7, Try.ntmps7
    have X : Ext W W := Ext.refl W
    go_wp2_with fail
    refine (szNet_c _ d_N _ _ (netC.vext H_N.out (Ext.pAlloc (Ext.pAlloc (X) _) _)) (by omega) (by omega)).mono ?_
    rintro e w1 ⟨rfl, Ew1⟩
    have Ew1c : Ext W w1 := Ext.trans (Ext.pAlloc (Ext.pAlloc (Ext.refl _) _) _) Ew1
    have B_AN_0 : w1.cell? ⟨(W.heap.size), 0, none⟩ = some (u_N) := cell_ext (by simp [go_sem]) Ew1
    have B_AN_1 : w1.cell? ⟨(W.heap.size), 1, none⟩ = some (v_N) := cell_ext (by simp [go_sem]) Ew1
    have B_AM_0 : w1.cell? ⟨(W.heap.size + 1), 0, none⟩ = some (.int .i64 (d_M).1) := cell_ext (by simp [go_sem]) Ew1
    have B_AM_1 : w1.cell? ⟨(W.heap.size + 1), 1, none⟩ = some (.int .i64 (d_M).2.1) := cell_ext (by simp [go_sem]) Ew1
    have B_AM_2 : w1.cell? ⟨(W.heap.size + 1), 2, none⟩ = some (v_M) := cell_ext (by simp [go_sem]) Ew1
    have Sw1 : W.heap.size + 2 ≤ w1.heap.size := by have := Ew1.size; (try simp at this); omega
    replace X := X.trans Ew1c
    clear Ew1 Ew1c
    go_wp2_with fail
    refine (szMsg_c _ d_M _ _ (msgC.vext H_M.out (X)) (by omega) (by omega)).mono ?_
    rintro e w2 ⟨rfl, Ew2⟩
    have Ew2c : Ext w1 w2 := Ew2
    replace B_AN_0 := cell_ext B_AN_0 Ew2c
    replace B_AN_1 := cell_ext B_AN_1 Ew2c
    replace B_AM_0 := cell_ext B_AM_0 Ew2c
    replace B_AM_1 := cell_ext B_AM_1 Ew2c
    replace B_AM_2 := cell_ext B_AM_2 Ew2c
    have Sw2 : w1.heap.size ≤ w2.heap.size := by have := Ew2.size; (try simp at this); omega
    replace X := X.trans Ew2c
    clear Ew2 Ew2c
    go_upto_region 8 with fail
    go_cut [6, 7] (fun s6 s7 wx => ∃ (X : Nat) (u v : Value), s6 = .pointer (some ⟨X, 0, none⟩) ∧ s7 = .bool ((sent d_N d_M).2) ∧ Ext w2 wx ∧ w2.heap.size ≤ X ∧ X < wx.heap.size ∧ wx.cell? ⟨X, 0, none⟩ = some u ∧ wx.cell? ⟨X, 1, none⟩ = some v ∧ netC.own w2.heap.size wx.heap.size wx [u, v] ((sent d_N d_M).1))
    case first =>
      have nB_AN_0 : (W.heap.size) < w2.heap.size := World.block_lt_of_cell? _ _ B_AN_0
      have nB_AM_0 : (W.heap.size + 1) < w2.heap.size := World.block_lt_of_cell? _ _ B_AM_0
      refine wp_region_held_drew (S := fun ω => ω.cell? ⟨(W.heap.size), 0, none⟩ = some (u_N) ∧ ω.cell? ⟨(W.heap.size), 1, none⟩ = some (v_N) ∧ ω.cell? ⟨(W.heap.size + 1), 0, none⟩ = some (.int .i64 (d_M).1) ∧ ω.cell? ⟨(W.heap.size + 1), 1, none⟩ = some (.int .i64 (d_M).2.1) ∧ ω.cell? ⟨(W.heap.size + 1), 2, none⟩ = some (v_M) ∧ Ext w2 ω) (by kernel_rfl) ?_ (fun hHeld => ?_)
      · (try dsimp only); exact ⟨cell_ext B_AN_0 (Ext.drew _), cell_ext B_AN_1 (Ext.drew _), cell_ext B_AM_0 (Ext.drew _), cell_ext B_AM_1 (Ext.drew _), cell_ext B_AM_2 (Ext.drew _), Ext.drew _⟩
      refine wpAnyH_take (i := 0) (v := ?_) rfl (by kernel_rfl) (by kernel_rfl) (by kernel_rfl) (fun _ _ _ h => h) (Or.inl ⟨by rfl, ?_⟩) (by assumption) ?_
      rotate_left
      · intro w9 hSw; (try dsimp only at hSw); go_simp; (first | done | with_reducible rfl)
      (try simp only [List.getElem_toArray, List.getElem_cons_succ, List.getElem_cons_zero, Act.put, List.setIfInBounds_toArray, List.set_cons_zero, List.set_cons_succ])
      refine wpAnyH_take (i := 2) (v := ?_) rfl (by kernel_rfl) (by kernel_rfl) (by kernel_rfl) (fun _ _ _ h => h) (Or.inl ⟨by rfl, ?_⟩) (by assumption) ?_
      rotate_left
      · intro w9 hSw; (try dsimp only at hSw); go_simp; (first | done | with_reducible rfl)
      (try simp only [List.getElem_toArray, List.getElem_cons_succ, List.getElem_cons_zero, Act.put, List.setIfInBounds_toArray, List.set_cons_zero, List.set_cons_succ])
      refine wpAnyH_ready (rs := [1, 8]) (by kernel_rfl) (by simp) ?_
      refine AllReadyH.cons rfl (fun K hK => ?_) (AllReadyH.cons rfl (fun K hK => ?_) AllReadyH.nil)
      · go_simp
        refine (toNet_c _ d_N _ (netC.vext H_N.out (X.trans hHeld.2.2.2.2.2)) (by first | omega | exact sz_N)).mono ?_
        rintro e w3 ⟨u_tN, v_tN, rfl, Ew3, O_tN⟩
        obtain ⟨⟨b_tN, c_tN, rfl⟩, bb_tN, cc_tN, rfl⟩ := net_take O_tN
        have zw3 := Ew3.size; (try simp at zw3)
        (try go_wp2_with fail)
        refine hK.out _ _ ?_ (fun hHeld2 => ?_)
        · (try dsimp only); (obtain ⟨s0, s1, s2, s3, s4, s5⟩ := hHeld; exact ⟨cell_ext s0 Ew3, cell_ext s1 Ew3, cell_ext s2 Ew3, cell_ext s3 Ew3, cell_ext s4 Ew3, s5.trans Ew3⟩)
        clear hK K hHeld
        rename _ => hHeld
        (try simp only [List.getElem_toArray, List.getElem_cons_succ, List.getElem_cons_zero, Act.put, List.setIfInBounds_toArray, List.set_cons_zero, List.set_cons_succ])
        refine wpAnyH_ready (rs := [3, 8]) (by kernel_rfl) (by simp) ?_
        refine AllReadyH.cons rfl (fun K hK => ?_) (AllReadyH.cons rfl (fun K hK => ?_) AllReadyH.nil)
        · go_simp
          refine (toMsg_c _ d_M _ (msgC.vext H_M.out (X.trans hHeld.2.2.2.2.2)) (by first | omega | exact sz_M)).mono ?_
          rintro e w4 ⟨v_tM, rfl, Ew4, O_tM⟩
          obtain ⟨b_tM, c_tM, rfl⟩ := msg_take O_tM
          replace O_tN := Cd.own.ext O_tN (Ext.trans (by repeat (first | with_reducible exact Ext.refl _ | with_reducible assumption | with_reducible refine Ext.pAlloc ?_ _ | with_reducible refine Ext.pDrew ?_)) Ew4)
          have zw4 := Ew4.size; (try simp at zw4)
          (try go_wp2_with fail)
          refine hK.out _ _ ?_ (fun hHeld2 => ?_)
          · (try dsimp only); (obtain ⟨s0, s1, s2, s3, s4, s5⟩ := hHeld; exact ⟨cell_ext s0 Ew4, cell_ext s1 Ew4, cell_ext s2 Ew4, cell_ext s3 Ew4, cell_ext s4 Ew4, s5.trans Ew4⟩)
          clear hK K hHeld
          rename _ => hHeld
          (try simp only [List.getElem_toArray, List.getElem_cons_succ, List.getElem_cons_zero, Act.put, List.setIfInBounds_toArray, List.set_cons_zero, List.set_cons_succ])
          refine wpAnyH_ready (rs := [4, 8]) (by kernel_rfl) (by simp) ?_
          refine AllReadyH.cons rfl (fun K hK => ?_) (AllReadyH.cons rfl (fun K hK => ?_) AllReadyH.nil)
          · go_simp
            refine (specSent_c _ _ _ _ _ (Cd.own.ext O_tN (by repeat (first | with_reducible exact Ext.refl _ | with_reducible assumption | with_reducible refine Ext.pAlloc ?_ _ | with_reducible refine Ext.pDrew ?_))).view (Cd.own.ext O_tM (by repeat (first | with_reducible exact Ext.refl _ | with_reducible assumption | with_reducible refine Ext.pAlloc ?_ _ | with_reducible refine Ext.pDrew ?_))).view).mono ?_
            rintro e w5 ⟨u9, v9, rfl, Ew5, O9⟩
            have O9w := Lib.hid O9; obtain ⟨⟨b9, c9, rfl⟩, bb9, cc9, rfl⟩ := net_take O9
            have o9l : w2.heap.size ≤ _ := hHeld.2.2.2.2.2.size
            have zw5 := Ew5.size; (try simp at zw5)
            (try go_wp2_with fail)
            refine hK.out _ _ ?_ (fun hHeld2 => ?_)
            · (try dsimp only); (obtain ⟨s0, s1, s2, s3, s4, s5⟩ := hHeld; exact ⟨cell_ext s0 Ew5, cell_ext s1 Ew5, cell_ext s2 Ew5, cell_ext s3 Ew5, cell_ext s4 Ew5, s5.trans Ew5⟩)
            clear hK K hHeld
            rename _ => hHeld
            (try simp only [List.getElem_toArray, List.getElem_cons_succ, List.getElem_cons_zero, Act.put, List.setIfInBounds_toArray, List.set_cons_zero, List.set_cons_succ])
            refine wpAnyH_take (i := 5) (v := ?_) rfl (by kernel_rfl) (by kernel_rfl) (by kernel_rfl) (fun _ _ _ h => h) (Or.inl ⟨by rfl, ?_⟩) (by assumption) ?_
            rotate_left
            · intro w9 hSw; (try dsimp only at hSw); go_simp; (first | done | with_reducible rfl)
            (try simp only [List.getElem_toArray, List.getElem_cons_succ, List.getElem_cons_zero, Act.put, List.setIfInBounds_toArray, List.set_cons_zero, List.set_cons_succ])
            refine wpAnyH_take (i := 6) (v := ?_) rfl (by kernel_rfl) (by kernel_rfl) (by kernel_rfl) (fun _ _ _ h => h) (Or.inl ⟨by rfl, ?_⟩) (by assumption) ?_
            rotate_left
            · intro w9 hSw; (try dsimp only at hSw); go_simp; (first | done | with_reducible rfl)
            (try simp only [List.getElem_toArray, List.getElem_cons_succ, List.getElem_cons_zero, Act.put, List.setIfInBounds_toArray, List.set_cons_zero, List.set_cons_succ])
            refine wpAnyH_take (i := 7) (v := ?_) rfl (by kernel_rfl) (by kernel_rfl) (by kernel_rfl) (fun _ _ _ h => h) (Or.inl ⟨by rfl, ?_⟩) (by assumption) ?_
            rotate_left
            · intro w9 hSw; (try dsimp only at hSw); go_simp; (first | done | with_reducible rfl)
            (try simp only [List.getElem_toArray, List.getElem_cons_succ, List.getElem_cons_zero, Act.put, List.setIfInBounds_toArray, List.set_cons_zero, List.set_cons_succ])
            refine wpAnyH_ready (rs := [8]) (by kernel_rfl) (by simp) ?_
            refine AllReadyH.cons rfl (fun K hK => ?_) AllReadyH.nil
            go_simp
            have hEa := hHeld.2.2.2.2.2
            have BX0 : Bx ((w5).alloc (.cells #[.slice none 0 0, .slice none 0 0] 31)) w5.heap.size [.slice none 0 0, .slice none 0 0] := Bx.new _ _ _ _ (by first | rfl | simp)
            have hX0 : w2.heap.size ≤ w5.heap.size := by first | exact Nat.le_refl _ | (have := hHeld.2.2.2.2.2.size; (try simp at this); omega)
            (try go_wp2_with fail)
            refine hK.out _ _ ?_ (fun hHeld2 => ?_)
            · (try dsimp only); (obtain ⟨s0, s1, s2, s3, s4, s5⟩ := hHeld; exact ⟨cell_ext s0 (Ext.alloc _ _), cell_ext s1 (Ext.alloc _ _), cell_ext s2 (Ext.alloc _ _), cell_ext s3 (Ext.alloc _ _), cell_ext s4 (Ext.alloc _ _), s5.trans (Ext.alloc _ _)⟩)
            clear hK K hHeld
            rename _ => hHeld
            (try simp only [List.getElem_toArray, List.getElem_cons_succ, List.getElem_cons_zero, Act.put, List.setIfInBounds_toArray, List.set_cons_zero, List.set_cons_succ])
            refine wpAnyH_ready (rs := [9]) (by kernel_rfl) (by simp) ?_
            refine AllReadyH.cons rfl (fun K hK => ?_) AllReadyH.nil
            have x0 := BX0.cell 0 _ rfl; have x1 := BX0.cell 1 _ rfl; have xf := BX0.fr; have xl := BX0.lt; (try simp at xl)
            go_simp
            (try go_wp2_with fail)
            refine hK.out _ _ ?_ (fun hHeld2 => ?_)
            · (try dsimp only); (obtain ⟨s0, s1, s2, s3, s4, s5⟩ := hHeld; exact ⟨by first | exact cell_set2 s0 (by omega) | exact cell_alloc2 s0 (by omega), by first | exact cell_set2 s1 (by omega) | exact cell_alloc2 s1 (by omega), by first | exact cell_set2 s2 (by omega) | exact cell_alloc2 s2 (by omega), by first | exact cell_set2 s3 (by omega) | exact cell_alloc2 s3 (by omega), by first | exact cell_set2 s4 (by omega) | exact cell_alloc2 s4 (by omega), by first | exact Ext.pSet (Ext.pSet s5 hX0 _) hX0 _ | exact Ext.pAlloc hEa _⟩)
            clear hK K hHeld
            rename _ => hHeld
            (try simp only [List.getElem_toArray, List.getElem_cons_succ, List.getElem_cons_zero, Act.put, List.setIfInBounds_toArray, List.set_cons_zero, List.set_cons_succ])
            refine wpAnyH_take (i := 10) (v := ?_) rfl (by kernel_rfl) (by kernel_rfl) (by kernel_rfl) (fun _ _ _ h => h) (Or.inl ⟨by rfl, ?_⟩) (by assumption) ?_
            rotate_left
            · intro w9 hSw; (try dsimp only at hSw); go_simp; (first | done | with_reducible rfl)
            (try simp only [List.getElem_toArray, List.getElem_cons_succ, List.getElem_cons_zero, Act.put, List.setIfInBounds_toArray, List.set_cons_zero, List.set_cons_succ])
            refine wpAnyH_done (by kernel_rfl) ?_ _
            have hE9 := hHeld.2.2.2.2.2
            clear hHeld
            (try go_wp2_with fail)
            go_meet
            case rel => exact ⟨w5.heap.size, .slice b9 ((sent d_N d_M).1).1.length c9, .slice bb9 ((sent d_N d_M).1).2.length cc9, rfl, rfl, hE9, hX0, (by first | omega | (simp; done) | (simp; omega)), (by simp [go_sem, x0, x1]), (by simp [go_sem, x0, x1]), Cd.own.wide (by first | exact own_two O9w.out (by first | omega | (simp; done) | (simp; omega)) _ _ | exact Cd.own.pAlloc O9w.out _) (by first | exact o9l | (simp at o9l ⊢; omega) | omega) (by first | (simp [World.setCell]; done) | (simp [World.setCell]; omega))⟩
          · go_simp
            have hEa := hHeld.2.2.2.2.2
            have BX0 : Bx ((w4).alloc (.cells #[.slice none 0 0, .slice none 0 0] 31)) w4.heap.size [.slice none 0 0, .slice none 0 0] := Bx.new _ _ _ _ (by first | rfl | simp)
            have hX0 : w2.heap.size ≤ w4.heap.size := by first | exact Nat.le_refl _ | (have := hHeld.2.2.2.2.2.size; (try simp at this); omega)
            (try go_wp2_with fail)
            refine hK.out _ _ ?_ (fun hHeld2 => ?_)
            · (try dsimp only); (obtain ⟨s0, s1, s2, s3, s4, s5⟩ := hHeld; exact ⟨cell_ext s0 (Ext.alloc _ _), cell_ext s1 (Ext.alloc _ _), cell_ext s2 (Ext.alloc _ _), cell_ext s3 (Ext.alloc _ _), cell_ext s4 (Ext.alloc _ _), s5.trans (Ext.alloc _ _)⟩)
            clear hK K hHeld
            rename _ => hHeld
            (try simp only [List.getElem_toArray, List.getElem_cons_succ, List.getElem_cons_zero, Act.put, List.setIfInBounds_toArray, List.set_cons_zero, List.set_cons_succ])
            refine wpAnyH_ready (rs := [4]) (by kernel_rfl) (by simp) ?_
            refine AllReadyH.cons rfl (fun K hK => ?_) AllReadyH.nil
            go_simp
            refine (specSent_c _ _ _ _ _ (Cd.own.ext O_tN (by repeat (first | with_reducible exact Ext.refl _ | with_reducible assumption | with_reducible refine Ext.pAlloc ?_ _ | with_reducible refine Ext.pDrew ?_))).view (Cd.own.ext O_tM (by repeat (first | with_reducible exact Ext.refl _ | with_reducible assumption | with_reducible refine Ext.pAlloc ?_ _ | with_reducible refine Ext.pDrew ?_))).view).mono ?_
            rintro e w6 ⟨u9, v9, rfl, Ew6, O9⟩
            have O9w := Lib.hid O9; obtain ⟨⟨b9, c9, rfl⟩, bb9, cc9, rfl⟩ := net_take O9
            have o9l : w2.heap.size ≤ _ := hHeld.2.2.2.2.2.size
            have BX : Bx w6 w4.heap.size [.slice none 0 0, .slice none 0 0] := Bx.ext BX0 Ew6; clear BX0; have BX0 := BX; clear BX
            have zw6 := Ew6.size; (try simp at zw6)
            (try go_wp2_with fail)
            refine hK.out _ _ ?_ (fun hHeld2 => ?_)
            · (try dsimp only); (obtain ⟨s0, s1, s2, s3, s4, s5⟩ := hHeld; exact ⟨cell_ext s0 Ew6, cell_ext s1 Ew6, cell_ext s2 Ew6, cell_ext s3 Ew6, cell_ext s4 Ew6, s5.trans Ew6⟩)
            clear hK K hHeld
            rename _ => hHeld
            (try simp only [List.getElem_toArray, List.getElem_cons_succ, List.getElem_cons_zero, Act.put, List.setIfInBounds_toArray, List.set_cons_zero, List.set_cons_succ])
            refine wpAnyH_take (i := 5) (v := ?_) rfl (by kernel_rfl) (by kernel_rfl) (by kernel_rfl) (fun _ _ _ h => h) (Or.inl ⟨by rfl, ?_⟩) (by assumption) ?_
            rotate_left
            · intro w9 hSw; (try dsimp only at hSw); go_simp; (first | done | with_reducible rfl)
            (try simp only [List.getElem_toArray, List.getElem_cons_succ, List.getElem_cons_zero, Act.put, List.setIfInBounds_toArray, List.set_cons_zero, List.set_cons_succ])
            refine wpAnyH_take (i := 6) (v := ?_) rfl (by kernel_rfl) (by kernel_rfl) (by kernel_rfl) (fun _ _ _ h => h) (Or.inl ⟨by rfl, ?_⟩) (by assumption) ?_
            rotate_left
            · intro w9 hSw; (try dsimp only at hSw); go_simp; (first | done | with_reducible rfl)
            (try simp only [List.getElem_toArray, List.getElem_cons_succ, List.getElem_cons_zero, Act.put, List.setIfInBounds_toArray, List.set_cons_zero, List.set_cons_succ])
            refine wpAnyH_take (i := 7) (v := ?_) rfl (by kernel_rfl) (by kernel_rfl) (by kernel_rfl) (fun _ _ _ h => h) (Or.inl ⟨by rfl, ?_⟩) (by assumption) ?_
            rotate_left
            · intro w9 hSw; (try dsimp only at hSw); go_simp; (first | done | with_reducible rfl)
            (try simp only [List.getElem_toArray, List.getElem_cons_succ, List.getElem_cons_zero, Act.put, List.setIfInBounds_toArray, List.set_cons_zero, List.set_cons_succ])
            refine wpAnyH_ready (rs := [9]) (by kernel_rfl) (by simp) ?_
            refine AllReadyH.cons rfl (fun K hK => ?_) AllReadyH.nil
            have x0 := BX0.cell 0 _ rfl; have x1 := BX0.cell 1 _ rfl; have xf := BX0.fr; have xl := BX0.lt; (try simp at xl)
            go_simp
            (try go_wp2_with fail)
            refine hK.out _ _ ?_ (fun hHeld2 => ?_)
            · (try dsimp only); (obtain ⟨s0, s1, s2, s3, s4, s5⟩ := hHeld; exact ⟨by first | exact cell_set2 s0 (by omega) | exact cell_alloc2 s0 (by omega), by first | exact cell_set2 s1 (by omega) | exact cell_alloc2 s1 (by omega), by first | exact cell_set2 s2 (by omega) | exact cell_alloc2 s2 (by omega), by first | exact cell_set2 s3 (by omega) | exact cell_alloc2 s3 (by omega), by first | exact cell_set2 s4 (by omega) | exact cell_alloc2 s4 (by omega), by first | exact Ext.pSet (Ext.pSet s5 hX0 _) hX0 _ | exact Ext.pAlloc hEa _⟩)
            clear hK K hHeld
            rename _ => hHeld
            (try simp only [List.getElem_toArray, List.getElem_cons_succ, List.getElem_cons_zero, Act.put, List.setIfInBounds_toArray, List.set_cons_zero, List.set_cons_succ])
            refine wpAnyH_take (i := 10) (v := ?_) rfl (by kernel_rfl) (by kernel_rfl) (by kernel_rfl) (fun _ _ _ h => h) (Or.inl ⟨by rfl, ?_⟩) (by assumption) ?_
            rotate_left
            · intro w9 hSw; (try dsimp only at hSw); go_simp; (first | done | with_reducible rfl)
            (try simp only [List.getElem_toArray, List.getElem_cons_succ, List.getElem_cons_zero, Act.put, List.setIfInBounds_toArray, List.set_cons_zero, List.set_cons_succ])
            refine wpAnyH_done (by kernel_rfl) ?_ _
            have hE9 := hHeld.2.2.2.2.2
            clear hHeld
            (try go_wp2_with fail)
            go_meet
            case rel => exact ⟨w4.heap.size, .slice b9 ((sent d_N d_M).1).1.length c9, .slice bb9 ((sent d_N d_M).1).2.length cc9, rfl, rfl, hE9, hX0, (by first | omega | (simp; done) | (simp; omega)), (by simp [go_sem, x0, x1]), (by simp [go_sem, x0, x1]), Cd.own.wide (by first | exact own_two O9w.out (by first | omega | (simp; done) | (simp; omega)) _ _ | exact Cd.own.pAlloc O9w.out _) (by first | exact o9l | (simp at o9l ⊢; omega) | omega) (by first | (simp [World.setCell]; done) | (simp [World.setCell]; omega))⟩
        · go_simp
          have hEa := hHeld.2.2.2.2.2
          have BX0 : Bx ((w3).alloc (.cells #[.slice none 0 0, .slice none 0 0] 31)) w3.heap.size [.slice none 0 0, .slice none 0 0] := Bx.new _ _ _ _ (by first | rfl | simp)
          have hX0 : w2.heap.size ≤ w3.heap.size := by first | exact Nat.le_refl _ | (have := hHeld.2.2.2.2.2.size; (try simp at this); omega)
          (try go_wp2_with fail)
          refine hK.out _ _ ?_ (fun hHeld2 => ?_)
          · (try dsimp only); (obtain ⟨s0, s1, s2, s3, s4, s5⟩ := hHeld; exact ⟨cell_ext s0 (Ext.alloc _ _), cell_ext s1 (Ext.alloc _ _), cell_ext s2 (Ext.alloc _ _), cell_ext s3 (Ext.alloc _ _), cell_ext s4 (Ext.alloc _ _), s5.trans (Ext.alloc _ _)⟩)
          clear hK K hHeld
          rename _ => hHeld
          (try simp only [List.getElem_toArray, List.getElem_cons_succ, List.getElem_cons_zero, Act.put, List.setIfInBounds_toArray, List.set_cons_zero, List.set_cons_succ])
          refine wpAnyH_ready (rs := [3]) (by kernel_rfl) (by simp) ?_
          refine AllReadyH.cons rfl (fun K hK => ?_) AllReadyH.nil
          go_simp
          refine (toMsg_c _ d_M _ (msgC.vext H_M.out (X.trans hHeld.2.2.2.2.2)) (by first | omega | exact sz_M)).mono ?_
          rintro e w7 ⟨v_tM, rfl, Ew7, O_tM⟩
          obtain ⟨b_tM, c_tM, rfl⟩ := msg_take O_tM
          replace O_tN := Cd.own.ext O_tN (Ext.trans (by repeat (first | with_reducible exact Ext.refl _ | with_reducible assumption | with_reducible refine Ext.pAlloc ?_ _ | with_reducible refine Ext.pDrew ?_)) Ew7)
          have BX : Bx w7 w3.heap.size [.slice none 0 0, .slice none 0 0] := Bx.ext BX0 Ew7; clear BX0; have BX0 := BX; clear BX
          have zw7 := Ew7.size; (try simp at zw7)
          (try go_wp2_with fail)
          refine hK.out _ _ ?_ (fun hHeld2 => ?_)
          · (try dsimp only); (obtain ⟨s0, s1, s2, s3, s4, s5⟩ := hHeld; exact ⟨cell_ext s0 Ew7, cell_ext s1 Ew7, cell_ext s2 Ew7, cell_ext s3 Ew7, cell_ext s4 Ew7, s5.trans Ew7⟩)
          clear hK K hHeld
          rename _ => hHeld
          (try simp only [List.getElem_toArray, List.getElem_cons_succ, List.getElem_cons_zero, Act.put, List.setIfInBounds_toArray, List.set_cons_zero, List.set_cons_succ])
          refine wpAnyH_ready (rs := [4]) (by kernel_rfl) (by simp) ?_
          refine AllReadyH.cons rfl (fun K hK => ?_) AllReadyH.nil
          go_simp
          refine (specSent_c _ _ _ _ _ (Cd.own.ext O_tN (by repeat (first | with_reducible exact Ext.refl _ | with_reducible assumption | with_reducible refine Ext.pAlloc ?_ _ | with_reducible refine Ext.pDrew ?_))).view (Cd.own.ext O_tM (by repeat (first | with_reducible exact Ext.refl _ | with_reducible assumption | with_reducible refine Ext.pAlloc ?_ _ | with_reducible refine Ext.pDrew ?_))).view).mono ?_
          rintro e w8 ⟨u9, v9, rfl, Ew8, O9⟩
          have O9w := Lib.hid O9; obtain ⟨⟨b9, c9, rfl⟩, bb9, cc9, rfl⟩ := net_take O9
          have o9l : w2.heap.size ≤ _ := hHeld.2.2.2.2.2.size
          have BX : Bx w8 w3.heap.size [.slice none 0 0, .slice none 0 0] := Bx.ext BX0 Ew8; clear BX0; have BX0 := BX; clear BX
          have zw8 := Ew8.size; (try simp at zw8)
          (try go_wp2_with fail)
          refine hK.out _ _ ?_ (fun hHeld2 => ?_)
          · (try dsimp only); (obtain ⟨s0, s1, s2, s3, s4, s5⟩ := hHeld; exact ⟨cell_ext s0 Ew8, cell_ext s1 Ew8, cell_ext s2 Ew8, cell_ext s3 Ew8, cell_ext s4 Ew8, s5.trans Ew8⟩)
          clear hK K hHeld
          rename _ => hHeld
          (try simp only [List.getElem_toArray, List.getElem_cons_succ, List.getElem_cons_zero, Act.put, List.setIfInBounds_toArray, List.set_cons_zero, List.set_cons_succ])
          refine wpAnyH_take (i := 5) (v := ?_) rfl (by kernel_rfl) (by kernel_rfl) (by kernel_rfl) (fun _ _ _ h => h) (Or.inl ⟨by rfl, ?_⟩) (by assumption) ?_
          rotate_left
          · intro w9 hSw; (try dsimp only at hSw); go_simp; (first | done | with_reducible rfl)
          (try simp only [List.getElem_toArray, List.getElem_cons_succ, List.getElem_cons_zero, Act.put, List.setIfInBounds_toArray, List.set_cons_zero, List.set_cons_succ])
          refine wpAnyH_take (i := 6) (v := ?_) rfl (by kernel_rfl) (by kernel_rfl) (by kernel_rfl) (fun _ _ _ h => h) (Or.inl ⟨by rfl, ?_⟩) (by assumption) ?_
          rotate_left
          · intro w9 hSw; (try dsimp only at hSw); go_simp; (first | done | with_reducible rfl)
          (try simp only [List.getElem_toArray, List.getElem_cons_succ, List.getElem_cons_zero, Act.put, List.setIfInBounds_toArray, List.set_cons_zero, List.set_cons_succ])
          refine wpAnyH_take (i := 7) (v := ?_) rfl (by kernel_rfl) (by kernel_rfl) (by kernel_rfl) (fun _ _ _ h => h) (Or.inl ⟨by rfl, ?_⟩) (by assumption) ?_
          rotate_left
          · intro w9 hSw; (try dsimp only at hSw); go_simp; (first | done | with_reducible rfl)
          (try simp only [List.getElem_toArray, List.getElem_cons_succ, List.getElem_cons_zero, Act.put, List.setIfInBounds_toArray, List.set_cons_zero, List.set_cons_succ])
          refine wpAnyH_ready (rs := [9]) (by kernel_rfl) (by simp) ?_
          refine AllReadyH.cons rfl (fun K hK => ?_) AllReadyH.nil
          have x0 := BX0.cell 0 _ rfl; have x1 := BX0.cell 1 _ rfl; have xf := BX0.fr; have xl := BX0.lt; (try simp at xl)
          go_simp
          (try go_wp2_with fail)
          refine hK.out _ _ ?_ (fun hHeld2 => ?_)
          · (try dsimp only); (obtain ⟨s0, s1, s2, s3, s4, s5⟩ := hHeld; exact ⟨by first | exact cell_set2 s0 (by omega) | exact cell_alloc2 s0 (by omega), by first | exact cell_set2 s1 (by omega) | exact cell_alloc2 s1 (by omega), by first | exact cell_set2 s2 (by omega) | exact cell_alloc2 s2 (by omega), by first | exact cell_set2 s3 (by omega) | exact cell_alloc2 s3 (by omega), by first | exact cell_set2 s4 (by omega) | exact cell_alloc2 s4 (by omega), by first | exact Ext.pSet (Ext.pSet s5 hX0 _) hX0 _ | exact Ext.pAlloc hEa _⟩)
          clear hK K hHeld
          rename _ => hHeld
          (try simp only [List.getElem_toArray, List.getElem_cons_succ, List.getElem_cons_zero, Act.put, List.setIfInBounds_toArray, List.set_cons_zero, List.set_cons_succ])
          refine wpAnyH_take (i := 10) (v := ?_) rfl (by kernel_rfl) (by kernel_rfl) (by kernel_rfl) (fun _ _ _ h => h) (Or.inl ⟨by rfl, ?_⟩) (by assumption) ?_
          rotate_left
          · intro w9 hSw; (try dsimp only at hSw); go_simp; (first | done | with_reducible rfl)
          (try simp only [List.getElem_toArray, List.getElem_cons_succ, List.getElem_cons_zero, Act.put, List.setIfInBounds_toArray, List.set_cons_zero, List.set_cons_succ])
          refine wpAnyH_done (by kernel_rfl) ?_ _
          have hE9 := hHeld.2.2.2.2.2
          clear hHeld
          (try go_wp2_with fail)
          go_meet
          case rel => exact ⟨w3.heap.size, .slice b9 ((sent d_N d_M).1).1.length c9, .slice bb9 ((sent d_N d_M).1).2.length cc9, rfl, rfl, hE9, hX0, (by first | omega | (simp; done) | (simp; omega)), (by simp [go_sem, x0, x1]), (by simp [go_sem, x0, x1]), Cd.own.wide (by first | exact own_two O9w.out (by first | omega | (simp; done) | (simp; omega)) _ _ | exact Cd.own.pAlloc O9w.out _) (by first | exact o9l | (simp at o9l ⊢; omega) | omega) (by first | (simp [World.setCell]; done) | (simp [World.setCell]; omega))⟩
      · go_simp
        have hEa := hHeld.2.2.2.2.2
        have BX0 : Bx ((w2.drew).alloc (.cells #[.slice none 0 0, .slice none 0 0] 31)) w2.heap.size [.slice none 0 0, .slice none 0 0] := Bx.new _ _ _ _ (by first | rfl | simp)
        have hX0 : w2.heap.size ≤ w2.heap.size := by first | exact Nat.le_refl _ | (have := hHeld.2.2.2.2.2.size; (try simp at this); omega)
        (try go_wp2_with fail)
        refine hK.out _ _ ?_ (fun hHeld2 => ?_)
        · (try dsimp only); (obtain ⟨s0, s1, s2, s3, s4, s5⟩ := hHeld; exact ⟨cell_ext s0 (Ext.alloc _ _), cell_ext s1 (Ext.alloc _ _), cell_ext s2 (Ext.alloc _ _), cell_ext s3 (Ext.alloc _ _), cell_ext s4 (Ext.alloc _ _), s5.trans (Ext.alloc _ _)⟩)
        clear hK K hHeld
        rename _ => hHeld
        (try simp only [List.getElem_toArray, List.getElem_cons_succ, List.getElem_cons_zero, Act.put, List.setIfInBounds_toArray, List.set_cons_zero, List.set_cons_succ])
        refine wpAnyH_ready (rs := [1]) (by kernel_rfl) (by simp) ?_
        refine AllReadyH.cons rfl (fun K hK => ?_) AllReadyH.nil
        go_simp
        refine (toNet_c _ d_N _ (netC.vext H_N.out (X.trans hHeld.2.2.2.2.2)) (by first | omega | exact sz_N)).mono ?_
        rintro e w9 ⟨u_tN, v_tN, rfl, Ew9, O_tN⟩
        obtain ⟨⟨b_tN, c_tN, rfl⟩, bb_tN, cc_tN, rfl⟩ := net_take O_tN
        have BX : Bx w9 w2.heap.size [.slice none 0 0, .slice none 0 0] := Bx.ext BX0 Ew9; clear BX0; have BX0 := BX; clear BX
        have zw9 := Ew9.size; (try simp at zw9)
        (try go_wp2_with fail)
        refine hK.out _ _ ?_ (fun hHeld2 => ?_)
        · (try dsimp only); (obtain ⟨s0, s1, s2, s3, s4, s5⟩ := hHeld; exact ⟨cell_ext s0 Ew9, cell_ext s1 Ew9, cell_ext s2 Ew9, cell_ext s3 Ew9, cell_ext s4 Ew9, s5.trans Ew9⟩)
        clear hK K hHeld
        rename _ => hHeld
        (try simp only [List.getElem_toArray, List.getElem_cons_succ, List.getElem_cons_zero, Act.put, List.setIfInBounds_toArray, List.set_cons_zero, List.set_cons_succ])
        refine wpAnyH_ready (rs := [3]) (by kernel_rfl) (by simp) ?_
        refine AllReadyH.cons rfl (fun K hK => ?_) AllReadyH.nil
        go_simp
        refine (toMsg_c _ d_M _ (msgC.vext H_M.out (X.trans hHeld.2.2.2.2.2)) (by first | omega | exact sz_M)).mono ?_
        rintro e w10 ⟨v_tM, rfl, Ew10, O_tM⟩
        obtain ⟨b_tM, c_tM, rfl⟩ := msg_take O_tM
        replace O_tN := Cd.own.ext O_tN (Ext.trans (by repeat (first | with_reducible exact Ext.refl _ | with_reducible assumption | with_reducible refine Ext.pAlloc ?_ _ | with_reducible refine Ext.pDrew ?_)) Ew10)
        have BX : Bx w10 w2.heap.size [.slice none 0 0, .slice none 0 0] := Bx.ext BX0 Ew10; clear BX0; have BX0 := BX; clear BX
        have zw10 := Ew10.size; (try simp at zw10)
        (try go_wp2_with fail)
        refine hK.out _ _ ?_ (fun hHeld2 => ?_)
        · (try dsimp only); (obtain ⟨s0, s1, s2, s3, s4, s5⟩ := hHeld; exact ⟨cell_ext s0 Ew10, cell_ext s1 Ew10, cell_ext s2 Ew10, cell_ext s3 Ew10, cell_ext s4 Ew10, s5.trans Ew10⟩)
        clear hK K hHeld
        rename _ => hHeld
        (try simp only [List.getElem_toArray, List.getElem_cons_succ, List.getElem_cons_zero, Act.put, List.setIfInBounds_toArray, List.set_cons_zero, List.set_cons_succ])
        refine wpAnyH_ready (rs := [4]) (by kernel_rfl) (by simp) ?_
        refine AllReadyH.cons rfl (fun K hK => ?_) AllReadyH.nil
        go_simp
        refine (specSent_c _ _ _ _ _ (Cd.own.ext O_tN (by repeat (first | with_reducible exact Ext.refl _ | with_reducible assumption | with_reducible refine Ext.pAlloc ?_ _ | with_reducible refine Ext.pDrew ?_))).view (Cd.own.ext O_tM (by repeat (first | with_reducible exact Ext.refl _ | with_reducible assumption | with_reducible refine Ext.pAlloc ?_ _ | with_reducible refine Ext.pDrew ?_))).view).mono ?_
        rintro e w11 ⟨u9, v9, rfl, Ew11, O9⟩
        have O9w := Lib.hid O9; obtain ⟨⟨b9, c9, rfl⟩, bb9, cc9, rfl⟩ := net_take O9
        have o9l : w2.heap.size ≤ _ := hHeld.2.2.2.2.2.size
        have BX : Bx w11 w2.heap.size [.slice none 0 0, .slice none 0 0] := Bx.ext BX0 Ew11; clear BX0; have BX0 := BX; clear BX
        have zw11 := Ew11.size; (try simp at zw11)
        (try go_wp2_with fail)
        refine hK.out _ _ ?_ (fun hHeld2 => ?_)
        · (try dsimp only); (obtain ⟨s0, s1, s2, s3, s4, s5⟩ := hHeld; exact ⟨cell_ext s0 Ew11, cell_ext s1 Ew11, cell_ext s2 Ew11, cell_ext s3 Ew11, cell_ext s4 Ew11, s5.trans Ew11⟩)
        clear hK K hHeld
        rename _ => hHeld
        (try simp only [List.getElem_toArray, List.getElem_cons_succ, List.getElem_cons_zero, Act.put, List.setIfInBounds_toArray, List.set_cons_zero, List.set_cons_succ])
        refine wpAnyH_take (i := 5) (v := ?_) rfl (by kernel_rfl) (by kernel_rfl) (by kernel_rfl) (fun _ _ _ h => h) (Or.inl ⟨by rfl, ?_⟩) (by assumption) ?_
        rotate_left
        · intro w9 hSw; (try dsimp only at hSw); go_simp; (first | done | with_reducible rfl)
        (try simp only [List.getElem_toArray, List.getElem_cons_succ, List.getElem_cons_zero, Act.put, List.setIfInBounds_toArray, List.set_cons_zero, List.set_cons_succ])
        refine wpAnyH_take (i := 6) (v := ?_) rfl (by kernel_rfl) (by kernel_rfl) (by kernel_rfl) (fun _ _ _ h => h) (Or.inl ⟨by rfl, ?_⟩) (by assumption) ?_
        rotate_left
        · intro w9 hSw; (try dsimp only at hSw); go_simp; (first | done | with_reducible rfl)
        (try simp only [List.getElem_toArray, List.getElem_cons_succ, List.getElem_cons_zero, Act.put, List.setIfInBounds_toArray, List.set_cons_zero, List.set_cons_succ])
        refine wpAnyH_take (i := 7) (v := ?_) rfl (by kernel_rfl) (by kernel_rfl) (by kernel_rfl) (fun _ _ _ h => h) (Or.inl ⟨by rfl, ?_⟩) (by assumption) ?_
        rotate_left
        · intro w9 hSw; (try dsimp only at hSw); go_simp; (first | done | with_reducible rfl)
        (try simp only [List.getElem_toArray, List.getElem_cons_succ, List.getElem_cons_zero, Act.put, List.setIfInBounds_toArray, List.set_cons_zero, List.set_cons_succ])
        refine wpAnyH_ready (rs := [9]) (by kernel_rfl) (by simp) ?_
        refine AllReadyH.cons rfl (fun K hK => ?_) AllReadyH.nil
        have x0 := BX0.cell 0 _ rfl; have x1 := BX0.cell 1 _ rfl; have xf := BX0.fr; have xl := BX0.lt; (try simp at xl)
        go_simp
        (try go_wp2_with fail)
        refine hK.out _ _ ?_ (fun hHeld2 => ?_)
        · (try dsimp only); (obtain ⟨s0, s1, s2, s3, s4, s5⟩ := hHeld; exact ⟨by first | exact cell_set2 s0 (by omega) | exact cell_alloc2 s0 (by omega), by first | exact cell_set2 s1 (by omega) | exact cell_alloc2 s1 (by omega), by first | exact cell_set2 s2 (by omega) | exact cell_alloc2 s2 (by omega), by first | exact cell_set2 s3 (by omega) | exact cell_alloc2 s3 (by omega), by first | exact cell_set2 s4 (by omega) | exact cell_alloc2 s4 (by omega), by first | exact Ext.pSet (Ext.pSet s5 hX0 _) hX0 _ | exact Ext.pAlloc hEa _⟩)
        clear hK K hHeld
        rename _ => hHeld
        (try simp only [List.getElem_toArray, List.getElem_cons_succ, List.getElem_cons_zero, Act.put, List.setIfInBounds_toArray, List.set_cons_zero, List.set_cons_succ])
        refine wpAnyH_take (i := 10) (v := ?_) rfl (by kernel_rfl) (by kernel_rfl) (by kernel_rfl) (fun _ _ _ h => h) (Or.inl ⟨by rfl, ?_⟩) (by assumption) ?_
        rotate_left
        · intro w9 hSw; (try dsimp only at hSw); go_simp; (first | done | with_reducible rfl)
        (try simp only [List.getElem_toArray, List.getElem_cons_succ, List.getElem_cons_zero, Act.put, List.setIfInBounds_toArray, List.set_cons_zero, List.set_cons_succ])
        refine wpAnyH_done (by kernel_rfl) ?_ _
        have hE9 := hHeld.2.2.2.2.2
        clear hHeld
        (try go_wp2_with fail)
        go_meet
        case rel => exact ⟨w2.heap.size, .slice b9 ((sent d_N d_M).1).1.length c9, .slice bb9 ((sent d_N d_M).1).2.length cc9, rfl, rfl, hE9, hX0, (by first | omega | (simp; done) | (simp; omega)), (by simp [go_sem, x0, x1]), (by simp [go_sem, x0, x1]), Cd.own.wide (by first | exact own_two O9w.out (by first | omega | (simp; done) | (simp; omega)) _ _ | exact Cd.own.pAlloc O9w.out _) (by first | exact o9l | (simp at o9l ⊢; omega) | omega) (by first | (simp [World.setCell]; done) | (simp [World.setCell]; omega))⟩
    case rest =>
      obtain ⟨Xw0r0, u_w0r0, v_w0r0, rfl, rfl, Ew12, hX1, hX2, hc0, hc1, O_w0r0⟩ := hcut
      obtain ⟨w12, hw12⟩ : ∃ w12 : World, w12 = wc := ⟨_, rfl⟩
      subst hw12
      obtain ⟨⟨b_w0r0, c_w0r0, rfl⟩, bb_w0r0, cc_w0r0, rfl⟩ := net_take O_w0r0
      have Ew12c : Ext w2 w12 := Ew12
      replace B_AN_0 := cell_ext B_AN_0 Ew12c
      replace B_AN_1 := cell_ext B_AN_1 Ew12c
      replace B_AM_0 := cell_ext B_AM_0 Ew12c
      replace B_AM_1 := cell_ext B_AM_1 Ew12c
      replace B_AM_2 := cell_ext B_AM_2 Ew12c
      have Sw12 : w2.heap.size ≤ w12.heap.size := by have := Ew12.size; (try simp at this); omega
      replace X := X.trans Ew12c
      clear Ew12 Ew12c
      have B_w0r0_0 := hc0; have B_w0r0_1 := hc1; clear hc0 hc1
      go_wp2_with fail
      refine (toNet_c _ d_N _ (netC.vext H_N.out (X)) (by first | omega | exact sz_N)).mono ?_
      rintro e w13 ⟨u_xN, v_xN, rfl, Ew13, O_xN⟩
      replace O_xN := O_xN.wide (lo' := w12.heap.size) (hi' := w13.heap.size) (by simp) (Nat.le_refl _)
      have Ew13c : Ext w12 w13 := Ew13
      replace O_w0r0 := O_w0r0.ext Ew13c
      replace B_AN_0 := cell_ext B_AN_0 Ew13c
      replace B_AN_1 := cell_ext B_AN_1 Ew13c
      replace B_AM_0 := cell_ext B_AM_0 Ew13c
      replace B_AM_1 := cell_ext B_AM_1 Ew13c
      replace B_AM_2 := cell_ext B_AM_2 Ew13c
      replace B_w0r0_0 := cell_ext B_w0r0_0 Ew13c
      replace B_w0r0_1 := cell_ext B_w0r0_1 Ew13c
      have Sw13 : w12.heap.size ≤ w13.heap.size := by have := Ew13.size; (try simp at this); omega
      replace X := X.trans Ew13c
      clear Ew13 Ew13c
      obtain ⟨⟨b_xN, c_xN, rfl⟩, bb_xN, cc_xN, rfl⟩ := net_take O_xN
      have N_AN_0 : (W.heap.size) < w13.heap.size := by omega
      have N_AM_0 : (W.heap.size + 1) < w13.heap.size := by omega
      have N_w0r0_0 : Xw0r0 < w13.heap.size := by omega
      go_wp2_with fail
      refine (toMsg_c _ d_M _ (msgC.vext H_M.out (Ext.pAlloc (X) _)) (by first | omega | exact sz_M)).mono ?_
      rintro e w14 ⟨v_xM, rfl, Ew14, O_xM⟩
      replace O_xM := O_xM.wide (lo' := w13.heap.size + 1) (hi' := w14.heap.size) (by simp) (Nat.le_refl _)
      have Ew14c : Ext w13 w14 := Ext.trans (Ext.pAlloc (Ext.refl _) _) Ew14
      replace O_w0r0 := O_w0r0.ext Ew14c
      replace O_xN := O_xN.ext Ew14c
      replace B_AN_0 := cell_ext B_AN_0 Ew14c
      replace B_AN_1 := cell_ext B_AN_1 Ew14c
      replace B_AM_0 := cell_ext B_AM_0 Ew14c
      replace B_AM_1 := cell_ext B_AM_1 Ew14c
      replace B_AM_2 := cell_ext B_AM_2 Ew14c
      replace B_w0r0_0 := cell_ext B_w0r0_0 Ew14c
      replace B_w0r0_1 := cell_ext B_w0r0_1 Ew14c
      have B_xN_0 : w14.cell? ⟨(w13.heap.size), 0, none⟩ = some (.slice b_xN (d_N).1.length c_xN) := cell_ext (by simp [go_sem]) Ew14
      have B_xN_1 : w14.cell? ⟨(w13.heap.size), 1, none⟩ = some (.slice bb_xN (d_N).2.length cc_xN) := cell_ext (by simp [go_sem]) Ew14
      have Sw14 : w13.heap.size + 1 ≤ w14.heap.size := by have := Ew14.size; (try simp at this); omega
      replace X := X.trans Ew14c
      clear Ew14 Ew14c
      obtain ⟨b_xM, c_xM, rfl⟩ := msg_take O_xM
      have N_AN_0 : (W.heap.size) < w14.heap.size := by omega
      have N_AM_0 : (W.heap.size + 1) < w14.heap.size := by omega
      have N_w0r0_0 : Xw0r0 < w14.heap.size := by omega
      have N_xN_0 : (w13.heap.size) < w14.heap.size := by omega
      go_wp2_with fail
      refine (implSent_c _ _ _ _ _ (O_xN.ext (Ext.pAlloc (Ext.refl _) _)).view (O_xM.ext (Ext.pAlloc (Ext.refl _) _)).view).mono ?_
      rintro e w15 ⟨u_g0r0, v_g0r0, rfl, Ew15, O_g0r0⟩
      replace O_g0r0 := O_g0r0.wide (lo' := w14.heap.size + 1) (hi' := w15.heap.size) (by simp) (Nat.le_refl _)
      have Ew15c : Ext w14 w15 := Ext.trans (Ext.pAlloc (Ext.refl _) _) Ew15
      replace O_w0r0 := O_w0r0.ext Ew15c
      replace O_xN := O_xN.ext Ew15c
      replace O_xM := O_xM.ext Ew15c
      replace B_AN_0 := cell_ext B_AN_0 Ew15c
      replace B_AN_1 := cell_ext B_AN_1 Ew15c
      replace B_AM_0 := cell_ext B_AM_0 Ew15c
      replace B_AM_1 := cell_ext B_AM_1 Ew15c
      replace B_AM_2 := cell_ext B_AM_2 Ew15c
      replace B_w0r0_0 := cell_ext B_w0r0_0 Ew15c
      replace B_w0r0_1 := cell_ext B_w0r0_1 Ew15c
      replace B_xN_0 := cell_ext B_xN_0 Ew15c
      replace B_xN_1 := cell_ext B_xN_1 Ew15c
      have B_xM_0 : w15.cell? ⟨(w14.heap.size), 0, none⟩ = some (.int .i64 (d_M).1) := cell_ext (by simp [go_sem]) Ew15
      have B_xM_1 : w15.cell? ⟨(w14.heap.size), 1, none⟩ = some (.int .i64 (d_M).2.1) := cell_ext (by simp [go_sem]) Ew15
      have B_xM_2 : w15.cell? ⟨(w14.heap.size), 2, none⟩ = some (.slice b_xM (d_M).2.2.length c_xM) := cell_ext (by simp [go_sem]) Ew15
      have Sw15 : w14.heap.size + 1 ≤ w15.heap.size := by have := Ew15.size; (try simp at this); omega
      replace X := X.trans Ew15c
      clear Ew15 Ew15c
      obtain ⟨⟨b_g0r0, c_g0r0, rfl⟩, bb_g0r0, cc_g0r0, rfl⟩ := net_take O_g0r0
      have N_AN_0 : (W.heap.size) < w15.heap.size := by omega
      have N_AM_0 : (W.heap.size + 1) < w15.heap.size := by omega
      have N_w0r0_0 : Xw0r0 < w15.heap.size := by omega
      have N_xN_0 : (w13.heap.size) < w15.heap.size := by omega
      have N_xM_0 : (w14.heap.size) < w15.heap.size := by omega
      go_wp2_with fail
      refine (eqNet_c _ _ _ _ _ (O_g0r0.ext (Ext.pAlloc (Ext.refl _) _)).view (O_w0r0.ext (Ext.pAlloc (Ext.refl _) _)).view).mono ?_
      rintro e w16 ⟨rfl, Ew16⟩
      have Ew16c : Ext w15 w16 := Ext.trans (Ext.pAlloc (Ext.refl _) _) Ew16
      replace O_w0r0 := O_w0r0.ext Ew16c
      replace O_xN := O_xN.ext Ew16c
      replace O_xM := O_xM.ext Ew16c
      replace O_g0r0 := O_g0r0.ext Ew16c
      replace B_AN_0 := cell_ext B_AN_0 Ew16c
      replace B_AN_1 := cell_ext B_AN_1 Ew16c
      replace B_AM_0 := cell_ext B_AM_0 Ew16c
      replace B_AM_1 := cell_ext B_AM_1 Ew16c
      replace B_AM_2 := cell_ext B_AM_2 Ew16c
      replace B_w0r0_0 := cell_ext B_w0r0_0 Ew16c
      replace B_w0r0_1 := cell_ext B_w0r0_1 Ew16c
      replace B_xN_0 := cell_ext B_xN_0 Ew16c
      replace B_xN_1 := cell_ext B_xN_1 Ew16c
      replace B_xM_0 := cell_ext B_xM_0 Ew16c
      replace B_xM_1 := cell_ext B_xM_1 Ew16c
      replace B_xM_2 := cell_ext B_xM_2 Ew16c
      have B_g0r0_0 : w16.cell? ⟨(w15.heap.size), 0, none⟩ = some (.slice b_g0r0 ((sent d_N d_M).1).1.length c_g0r0) := cell_ext (by simp [go_sem]) Ew16
      have B_g0r0_1 : w16.cell? ⟨(w15.heap.size), 1, none⟩ = some (.slice bb_g0r0 ((sent d_N d_M).1).2.length cc_g0r0) := cell_ext (by simp [go_sem]) Ew16
      have Sw16 : w15.heap.size + 1 ≤ w16.heap.size := by have := Ew16.size; (try simp at this); omega
      replace X := X.trans Ew16c
      clear Ew16 Ew16c
      go_wp2
      go_region_held3 (fun ω => ω.cell? ⟨(w13.heap.size), 0, none⟩ = some (.slice b_xN (d_N).1.length c_xN) ∧ ω.cell? ⟨(w13.heap.size), 1, none⟩ = some (.slice bb_xN (d_N).2.length cc_xN) ∧ ω.cell? ⟨(W.heap.size), 0, none⟩ = some (u_N) ∧ ω.cell? ⟨(W.heap.size), 1, none⟩ = some (v_N) ∧ Ext w16 ω)
        ((refine ⟨cell_ext B_xN_0 ?_, cell_ext B_xN_1 ?_, cell_ext B_AN_0 ?_, cell_ext B_AN_1 ?_, ?_⟩ <;> (repeat (first | with_reducible exact Ext.refl _ | with_reducible assumption | with_reducible refine Ext.pAlloc ?_ _ | ((with_reducible refine Ext.pSet ?_ ?_ _); rotate_left; (simp <;> omega)) | with_reducible refine Ext.pDrew ?_ | with_reducible refine Ext.pDrewN ?_ _ | with_reducible refine Ext.trans ?_ (by with_reducible assumption)))))
        ((first
          | (go_at_call 17; refine (toNet_c _ d_N _ (netC.vext H_N.out (by repeat (first | with_reducible exact Ext.refl _ | with_reducible assumption | with_reducible refine Ext.pAlloc ?_ _ | ((with_reducible refine Ext.pSet ?_ ?_ _); rotate_left; (simp <;> omega)) | with_reducible refine Ext.pDrew ?_ | with_reducible refine Ext.pDrewN ?_ _ | with_reducible refine Ext.trans ?_ (by with_reducible assumption)))) (by first | omega | exact sz_N)).mono ?_; rintro e w17 ⟨u_yN, v_yN, rfl, Ew17, O_yN⟩; obtain ⟨⟨b_yN, c_yN, rfl⟩, bb_yN, cc_yN, rfl⟩ := net_take O_yN)
          | (go_at_call 19; refine (eqNet_c _ _ d_N d_N _ (netC.vext O_xN.view (by repeat (first | with_reducible exact Ext.refl _ | with_reducible assumption | with_reducible refine Ext.pAlloc ?_ _ | ((with_reducible refine Ext.pSet ?_ ?_ _); rotate_left; (simp <;> omega)) | with_reducible refine Ext.pDrew ?_ | with_reducible refine Ext.pDrewN ?_ _ | with_reducible refine Ext.trans ?_ (by with_reducible assumption)))) O_yN.view).mono ?_; rintro e w18 ⟨rfl, Ew18⟩)))
      have Ew18r : Ext w16 w18 := (Ext.drew _).trans (Ew17.trans Ew18)
      clear Ew17 Ew18 O_yN
      have Ew18rc : Ext w16 w18 := Ew18r
      replace O_w0r0 := O_w0r0.ext Ew18rc
      replace O_xN := O_xN.ext Ew18rc
      replace O_xM := O_xM.ext Ew18rc
      replace O_g0r0 := O_g0r0.ext Ew18rc
      replace B_AN_0 := cell_ext B_AN_0 Ew18rc
      replace B_AN_1 := cell_ext B_AN_1 Ew18rc
      replace B_AM_0 := cell_ext B_AM_0 Ew18rc
      replace B_AM_1 := cell_ext B_AM_1 Ew18rc
      replace B_AM_2 := cell_ext B_AM_2 Ew18rc
      replace B_w0r0_0 := cell_ext B_w0r0_0 Ew18rc
      replace B_w0r0_1 := cell_ext B_w0r0_1 Ew18rc
      replace B_xN_0 := cell_ext B_xN_0 Ew18rc
      replace B_xN_1 := cell_ext B_xN_1 Ew18rc
      replace B_xM_0 := cell_ext B_xM_0 Ew18rc
      replace B_xM_1 := cell_ext B_xM_1 Ew18rc
      replace B_xM_2 := cell_ext B_xM_2 Ew18rc
      replace B_g0r0_0 := cell_ext B_g0r0_0 Ew18rc
      replace B_g0r0_1 := cell_ext B_g0r0_1 Ew18rc
      have Sw18 : w16.heap.size ≤ w18.heap.size := by have := Ew18r.size; (try simp at this); omega
      replace X := X.trans Ew18rc
      clear Ew18r Ew18rc
      go_wp2
      go_region_held3 (fun ω => ω.cell? ⟨(w14.heap.size), 0, none⟩ = some (.int .i64 (d_M).1) ∧ ω.cell? ⟨(w14.heap.size), 1, none⟩ = some (.int .i64 (d_M).2.1) ∧ ω.cell? ⟨(w14.heap.size), 2, none⟩ = some (.slice b_xM (d_M).2.2.length c_xM) ∧ ω.cell? ⟨(W.heap.size + 1), 0, none⟩ = some (.int .i64 (d_M).1) ∧ ω.cell? ⟨(W.heap.size + 1), 1, none⟩ = some (.int .i64 (d_M).2.1) ∧ ω.cell? ⟨(W.heap.size + 1), 2, none⟩ = some (v_M) ∧ Ext w18 ω)
        ((refine ⟨cell_ext B_xM_0 ?_, cell_ext B_xM_1 ?_, cell_ext B_xM_2 ?_, cell_ext B_AM_0 ?_, cell_ext B_AM_1 ?_, cell_ext B_AM_2 ?_, ?_⟩ <;> (repeat (first | with_reducible exact Ext.refl _ | with_reducible assumption | with_reducible refine Ext.pAlloc ?_ _ | ((with_reducible refine Ext.pSet ?_ ?_ _); rotate_left; (simp <;> omega)) | with_reducible refine Ext.pDrew ?_ | with_reducible refine Ext.pDrewN ?_ _ | with_reducible refine Ext.trans ?_ (by with_reducible assumption)))))
        ((first
          | (go_at_call 32; refine (toMsg_c _ d_M _ (msgC.vext H_M.out (by repeat (first | with_reducible exact Ext.refl _ | with_reducible assumption | with_reducible refine Ext.pAlloc ?_ _ | ((with_reducible refine Ext.pSet ?_ ?_ _); rotate_left; (simp <;> omega)) | with_reducible refine Ext.pDrew ?_ | with_reducible refine Ext.pDrewN ?_ _ | with_reducible refine Ext.trans ?_ (by with_reducible assumption)))) (by first | omega | exact sz_M)).mono ?_; rintro e w19 ⟨v_yM, rfl, Ew19, O_yM⟩; obtain ⟨b_yM, c_yM, rfl⟩ := msg_take O_yM)
          | (go_at_call 34; refine (eqMsg_c _ _ d_M d_M _ (msgC.vext O_xM.view (by repeat (first | with_reducible exact Ext.refl _ | with_reducible assumption | with_reducible refine Ext.pAlloc ?_ _ | ((with_reducible refine Ext.pSet ?_ ?_ _); rotate_left; (simp <;> omega)) | with_reducible refine Ext.pDrew ?_ | with_reducible refine Ext.pDrewN ?_ _ | with_reducible refine Ext.trans ?_ (by with_reducible assumption)))) O_yM.view).mono ?_; rintro e w20 ⟨rfl, Ew20⟩)))
      have Ew20r : Ext w18 w20 := (Ext.drew _).trans (Ew19.trans Ew20)
      clear Ew19 Ew20 O_yM
      have Ew20rc : Ext w18 w20 := Ew20r
      replace O_w0r0 := O_w0r0.ext Ew20rc
      replace O_xN := O_xN.ext Ew20rc
      replace O_xM := O_xM.ext Ew20rc
      replace O_g0r0 := O_g0r0.ext Ew20rc
      replace B_AN_0 := cell_ext B_AN_0 Ew20rc
      replace B_AN_1 := cell_ext B_AN_1 Ew20rc
      replace B_AM_0 := cell_ext B_AM_0 Ew20rc
      replace B_AM_1 := cell_ext B_AM_1 Ew20rc
      replace B_AM_2 := cell_ext B_AM_2 Ew20rc
      replace B_w0r0_0 := cell_ext B_w0r0_0 Ew20rc
      replace B_w0r0_1 := cell_ext B_w0r0_1 Ew20rc
      replace B_xN_0 := cell_ext B_xN_0 Ew20rc
      replace B_xN_1 := cell_ext B_xN_1 Ew20rc
      replace B_xM_0 := cell_ext B_xM_0 Ew20rc
      replace B_xM_1 := cell_ext B_xM_1 Ew20rc
      replace B_xM_2 := cell_ext B_xM_2 Ew20rc
      replace B_g0r0_0 := cell_ext B_g0r0_0 Ew20rc
      replace B_g0r0_1 := cell_ext B_g0r0_1 Ew20rc
      have Sw20 : w18.heap.size ≤ w20.heap.size := by have := Ew20r.size; (try simp at this); omega
      replace X := X.trans Ew20rc
      clear Ew20r Ew20rc
      go_wp2_with fail
      refine (markNet_c _ _ _ _ _ _ O_xN (by omega) (by omega)).mono ?_
      rintro e w21 ⟨rfl, Cw21, O_xN'⟩
      replace O_w0r0 := O_w0r0.chg Cw21 (by omega)
      replace O_xM := O_xM.chg Cw21 (by omega)
      replace O_g0r0 := O_g0r0.chg Cw21 (by omega)
      clear O_xN
      have O_xN := O_xN'
      clear O_xN'
      replace B_AN_0 := cell_chg B_AN_0 Cw21 (by omega)
      replace B_AN_1 := cell_chg B_AN_1 Cw21 (by omega)
      replace B_AM_0 := cell_chg B_AM_0 Cw21 (by omega)
      replace B_AM_1 := cell_chg B_AM_1 Cw21 (by omega)
      replace B_AM_2 := cell_chg B_AM_2 Cw21 (by omega)
      replace B_w0r0_0 := cell_chg B_w0r0_0 Cw21 (by omega)
      replace B_w0r0_1 := cell_chg B_w0r0_1 Cw21 (by omega)
      replace B_xN_0 := cell_chg B_xN_0 Cw21 (by omega)
      replace B_xN_1 := cell_chg B_xN_1 Cw21 (by omega)
      replace B_xM_0 := cell_chg B_xM_0 Cw21 (by omega)
      replace B_xM_1 := cell_chg B_xM_1 Cw21 (by omega)
      replace B_xM_2 := cell_chg B_xM_2 Cw21 (by omega)
      replace B_g0r0_0 := cell_chg B_g0r0_0 Cw21 (by omega)
      replace B_g0r0_1 := cell_chg B_g0r0_1 Cw21 (by omega)
      have Sw21 : w20.heap.size ≤ w21.heap.size := Cw21.size
      replace X := Chg.ext X Cw21 (by omega)
      clear Cw21
      go_wp2_with fail
      refine (markMsg_c _ _ _ _ _ _ O_xM (by omega) (by omega)).mono ?_
      rintro e w22 ⟨rfl, Cw22, O_xM'⟩
      replace O_w0r0 := O_w0r0.chg Cw22 (by omega)
      replace O_xN := O_xN.chg Cw22 (by omega)
      replace O_g0r0 := O_g0r0.chg Cw22 (by omega)
      clear O_xM
      have O_xM := O_xM'
      clear O_xM'
      replace B_AN_0 := cell_chg B_AN_0 Cw22 (by omega)
      replace B_AN_1 := cell_chg B_AN_1 Cw22 (by omega)
      replace B_AM_0 := cell_chg B_AM_0 Cw22 (by omega)
      replace B_AM_1 := cell_chg B_AM_1 Cw22 (by omega)
      replace B_AM_2 := cell_chg B_AM_2 Cw22 (by omega)
      replace B_w0r0_0 := cell_chg B_w0r0_0 Cw22 (by omega)
      replace B_w0r0_1 := cell_chg B_w0r0_1 Cw22 (by omega)
      replace B_xN_0 := cell_chg B_xN_0 Cw22 (by omega)
      replace B_xN_1 := cell_chg B_xN_1 Cw22 (by omega)
      replace B_xM_0 := cell_chg B_xM_0 Cw22 (by omega)
      replace B_xM_1 := cell_chg B_xM_1 Cw22 (by omega)
      replace B_xM_2 := cell_chg B_xM_2 Cw22 (by omega)
      replace B_g0r0_0 := cell_chg B_g0r0_0 Cw22 (by omega)
      replace B_g0r0_1 := cell_chg B_g0r0_1 Cw22 (by omega)
      have Sw22 : w21.heap.size ≤ w22.heap.size := Cw22.size
      replace X := Chg.ext X Cw22 (by omega)
      clear Cw22
      clear O_xN
      clear O_xM
      clear B_xN_0
      clear B_xN_1
      clear B_xM_0
      clear B_xM_1
      clear B_xM_2
      go_wp2_with fail
      refine (eqNet_c _ _ _ _ _ O_g0r0.view O_w0r0.view).mono ?_
      rintro e w23 ⟨rfl, Ew23⟩
      have Ew23c : Ext w22 w23 := Ew23
      replace O_w0r0 := O_w0r0.ext Ew23c
      replace O_g0r0 := O_g0r0.ext Ew23c
      replace B_AN_0 := cell_ext B_AN_0 Ew23c
      replace B_AN_1 := cell_ext B_AN_1 Ew23c
      replace B_AM_0 := cell_ext B_AM_0 Ew23c
      replace B_AM_1 := cell_ext B_AM_1 Ew23c
      replace B_AM_2 := cell_ext B_AM_2 Ew23c
      replace B_w0r0_0 := cell_ext B_w0r0_0 Ew23c
      replace B_w0r0_1 := cell_ext B_w0r0_1 Ew23c
      replace B_g0r0_0 := cell_ext B_g0r0_0 Ew23c
      replace B_g0r0_1 := cell_ext B_g0r0_1 Ew23c
      have Sw23 : w22.heap.size ≤ w23.heap.size := by have := Ew23.size; (try simp at this); omega
      replace X := X.trans Ew23c
      clear Ew23 Ew23c
      go_wp2_with fail
      refine (markNet_c _ _ _ _ _ _ O_g0r0 (by omega) (by omega)).mono ?_
      rintro e w24 ⟨rfl, Cw24, O_g0r0'⟩
      replace O_w0r0 := O_w0r0.chg Cw24 (by omega)
      clear O_g0r0
      have O_g0r0 := O_g0r0'
      clear O_g0r0'
      replace B_AN_0 := cell_chg B_AN_0 Cw24 (by omega)
      replace B_AN_1 := cell_chg B_AN_1 Cw24 (by omega)
      replace B_AM_0 := cell_chg B_AM_0 Cw24 (by omega)
      replace B_AM_1 := cell_chg B_AM_1 Cw24 (by omega)
      replace B_AM_2 := cell_chg B_AM_2 Cw24 (by omega)
      replace B_w0r0_0 := cell_chg B_w0r0_0 Cw24 (by omega)
      replace B_w0r0_1 := cell_chg B_w0r0_1 Cw24 (by omega)
      replace B_g0r0_0 := cell_chg B_g0r0_0 Cw24 (by omega)
      replace B_g0r0_1 := cell_chg B_g0r0_1 Cw24 (by omega)
      have Sw24 : w23.heap.size ≤ w24.heap.size := Cw24.size
      replace X := Chg.ext X Cw24 (by omega)
      clear Cw24
      go_wp2_with fail
      refine (heldNet_c _ ((sent d_N d_M).1) _ _ O_g0r0.view (by omega) (by omega)).mono ?_
      rintro e w25 ⟨rfl, Ew25⟩
      have Ew25c : Ext w24 w25 := Ew25
      replace O_w0r0 := O_w0r0.ext Ew25c
      replace O_g0r0 := O_g0r0.ext Ew25c
      replace B_AN_0 := cell_ext B_AN_0 Ew25c
      replace B_AN_1 := cell_ext B_AN_1 Ew25c
      replace B_AM_0 := cell_ext B_AM_0 Ew25c
      replace B_AM_1 := cell_ext B_AM_1 Ew25c
      replace B_AM_2 := cell_ext B_AM_2 Ew25c
      replace B_w0r0_0 := cell_ext B_w0r0_0 Ew25c
      replace B_w0r0_1 := cell_ext B_w0r0_1 Ew25c
      replace B_g0r0_0 := cell_ext B_g0r0_0 Ew25c
      replace B_g0r0_1 := cell_ext B_g0r0_1 Ew25c
      have Sw25 : w24.heap.size ≤ w25.heap.size := by have := Ew25.size; (try simp at this); omega
      replace X := X.trans Ew25c
      clear Ew25 Ew25c
      go_upto_region 31 with fail
      go_cut [15, 16] (fun s6 s7 wx => ∃ (X : Nat) (u v : Value), s6 = .pointer (some ⟨X, 0, none⟩) ∧ s7 = .bool ((sent d_N d_M).2) ∧ Ext w25 wx ∧ w25.heap.size ≤ X ∧ X < wx.heap.size ∧ wx.cell? ⟨X, 0, none⟩ = some u ∧ wx.cell? ⟨X, 1, none⟩ = some v ∧ netC.own w25.heap.size wx.heap.size wx [u, v] ((sent d_N d_M).1))
      case first =>
        have nB_AN_0 : (W.heap.size) < w25.heap.size := World.block_lt_of_cell? _ _ B_AN_0
        have nB_AM_0 : (W.heap.size + 1) < w25.heap.size := World.block_lt_of_cell? _ _ B_AM_0
        refine wp_region_held_drew (S := fun ω => ω.cell? ⟨(W.heap.size), 0, none⟩ = some (u_N) ∧ ω.cell? ⟨(W.heap.size), 1, none⟩ = some (v_N) ∧ ω.cell? ⟨(W.heap.size + 1), 0, none⟩ = some (.int .i64 (d_M).1) ∧ ω.cell? ⟨(W.heap.size + 1), 1, none⟩ = some (.int .i64 (d_M).2.1) ∧ ω.cell? ⟨(W.heap.size + 1), 2, none⟩ = some (v_M) ∧ Ext w25 ω) (by kernel_rfl) ?_ (fun hHeld => ?_)
        · (try dsimp only); exact ⟨cell_ext B_AN_0 (Ext.drew _), cell_ext B_AN_1 (Ext.drew _), cell_ext B_AM_0 (Ext.drew _), cell_ext B_AM_1 (Ext.drew _), cell_ext B_AM_2 (Ext.drew _), Ext.drew _⟩
        refine wpAnyH_take (i := 0) (v := ?_) rfl (by kernel_rfl) (by kernel_rfl) (by kernel_rfl) (fun _ _ _ h => h) (Or.inl ⟨by rfl, ?_⟩) (by assumption) ?_
        rotate_left
        · intro w9 hSw; (try dsimp only at hSw); go_simp; (first | done | with_reducible rfl)
        (try simp only [List.getElem_toArray, List.getElem_cons_succ, List.getElem_cons_zero, Act.put, List.setIfInBounds_toArray, List.set_cons_zero, List.set_cons_succ])
        refine wpAnyH_take (i := 2) (v := ?_) rfl (by kernel_rfl) (by kernel_rfl) (by kernel_rfl) (fun _ _ _ h => h) (Or.inl ⟨by rfl, ?_⟩) (by assumption) ?_
        rotate_left
        · intro w9 hSw; (try dsimp only at hSw); go_simp; (first | done | with_reducible rfl)
        (try simp only [List.getElem_toArray, List.getElem_cons_succ, List.getElem_cons_zero, Act.put, List.setIfInBounds_toArray, List.set_cons_zero, List.set_cons_succ])
        refine wpAnyH_ready (rs := [1, 8]) (by kernel_rfl) (by simp) ?_
        refine AllReadyH.cons rfl (fun K hK => ?_) (AllReadyH.cons rfl (fun K hK => ?_) AllReadyH.nil)
        · go_simp
          refine (toNet_c _ d_N _ (netC.vext H_N.out (X.trans hHeld.2.2.2.2.2)) (by first | omega | exact sz_N)).mono ?_
          rintro e w26 ⟨u_uN, v_uN, rfl, Ew26, O_uN⟩
          obtain ⟨⟨b_uN, c_uN, rfl⟩, bb_uN, cc_uN, rfl⟩ := net_take O_uN
          have zw26 := Ew26.size; (try simp at zw26)
          (try go_wp2_with fail)
          refine hK.out _ _ ?_ (fun hHeld2 => ?_)
          · (try dsimp only); (obtain ⟨s0, s1, s2, s3, s4, s5⟩ := hHeld; exact ⟨cell_ext s0 Ew26, cell_ext s1 Ew26, cell_ext s2 Ew26, cell_ext s3 Ew26, cell_ext s4 Ew26, s5.trans Ew26⟩)
          clear hK K hHeld
          rename _ => hHeld
          (try simp only [List.getElem_toArray, List.getElem_cons_succ, List.getElem_cons_zero, Act.put, List.setIfInBounds_toArray, List.set_cons_zero, List.set_cons_succ])
          refine wpAnyH_ready (rs := [3, 8]) (by kernel_rfl) (by simp) ?_
          refine AllReadyH.cons rfl (fun K hK => ?_) (AllReadyH.cons rfl (fun K hK => ?_) AllReadyH.nil)
          · go_simp
            refine (toMsg_c _ d_M _ (msgC.vext H_M.out (X.trans hHeld.2.2.2.2.2)) (by first | omega | exact sz_M)).mono ?_
            rintro e w27 ⟨v_uM, rfl, Ew27, O_uM⟩
            obtain ⟨b_uM, c_uM, rfl⟩ := msg_take O_uM
            replace O_uN := Cd.own.ext O_uN (Ext.trans (by repeat (first | with_reducible exact Ext.refl _ | with_reducible assumption | with_reducible refine Ext.pAlloc ?_ _ | with_reducible refine Ext.pDrew ?_)) Ew27)
            have zw27 := Ew27.size; (try simp at zw27)
            (try go_wp2_with fail)
            refine hK.out _ _ ?_ (fun hHeld2 => ?_)
            · (try dsimp only); (obtain ⟨s0, s1, s2, s3, s4, s5⟩ := hHeld; exact ⟨cell_ext s0 Ew27, cell_ext s1 Ew27, cell_ext s2 Ew27, cell_ext s3 Ew27, cell_ext s4 Ew27, s5.trans Ew27⟩)
            clear hK K hHeld
            rename _ => hHeld
            (try simp only [List.getElem_toArray, List.getElem_cons_succ, List.getElem_cons_zero, Act.put, List.setIfInBounds_toArray, List.set_cons_zero, List.set_cons_succ])
            refine wpAnyH_ready (rs := [4, 8]) (by kernel_rfl) (by simp) ?_
            refine AllReadyH.cons rfl (fun K hK => ?_) (AllReadyH.cons rfl (fun K hK => ?_) AllReadyH.nil)
            · go_simp
              refine (implSent_c _ _ _ _ _ (Cd.own.ext O_uN (by repeat (first | with_reducible exact Ext.refl _ | with_reducible assumption | with_reducible refine Ext.pAlloc ?_ _ | with_reducible refine Ext.pDrew ?_))).view (Cd.own.ext O_uM (by repeat (first | with_reducible exact Ext.refl _ | with_reducible assumption | with_reducible refine Ext.pAlloc ?_ _ | with_reducible refine Ext.pDrew ?_))).view).mono ?_
              rintro e w28 ⟨u9, v9, rfl, Ew28, O9⟩
              have O9w := Lib.hid O9; obtain ⟨⟨b9, c9, rfl⟩, bb9, cc9, rfl⟩ := net_take O9
              have o9l : w25.heap.size ≤ _ := hHeld.2.2.2.2.2.size
              have zw28 := Ew28.size; (try simp at zw28)
              (try go_wp2_with fail)
              refine hK.out _ _ ?_ (fun hHeld2 => ?_)
              · (try dsimp only); (obtain ⟨s0, s1, s2, s3, s4, s5⟩ := hHeld; exact ⟨cell_ext s0 Ew28, cell_ext s1 Ew28, cell_ext s2 Ew28, cell_ext s3 Ew28, cell_ext s4 Ew28, s5.trans Ew28⟩)
              clear hK K hHeld
              rename _ => hHeld
              (try simp only [List.getElem_toArray, List.getElem_cons_succ, List.getElem_cons_zero, Act.put, List.setIfInBounds_toArray, List.set_cons_zero, List.set_cons_succ])
              refine wpAnyH_take (i := 5) (v := ?_) rfl (by kernel_rfl) (by kernel_rfl) (by kernel_rfl) (fun _ _ _ h => h) (Or.inl ⟨by rfl, ?_⟩) (by assumption) ?_
              rotate_left
              · intro w9 hSw; (try dsimp only at hSw); go_simp; (first | done | with_reducible rfl)
              (try simp only [List.getElem_toArray, List.getElem_cons_succ, List.getElem_cons_zero, Act.put, List.setIfInBounds_toArray, List.set_cons_zero, List.set_cons_succ])
              refine wpAnyH_take (i := 6) (v := ?_) rfl (by kernel_rfl) (by kernel_rfl) (by kernel_rfl) (fun _ _ _ h => h) (Or.inl ⟨by rfl, ?_⟩) (by assumption) ?_
              rotate_left
              · intro w9 hSw; (try dsimp only at hSw); go_simp; (first | done | with_reducible rfl)
              (try simp only [List.getElem_toArray, List.getElem_cons_succ, List.getElem_cons_zero, Act.put, List.setIfInBounds_toArray, List.set_cons_zero, List.set_cons_succ])
              refine wpAnyH_take (i := 7) (v := ?_) rfl (by kernel_rfl) (by kernel_rfl) (by kernel_rfl) (fun _ _ _ h => h) (Or.inl ⟨by rfl, ?_⟩) (by assumption) ?_
              rotate_left
              · intro w9 hSw; (try dsimp only at hSw); go_simp; (first | done | with_reducible rfl)
              (try simp only [List.getElem_toArray, List.getElem_cons_succ, List.getElem_cons_zero, Act.put, List.setIfInBounds_toArray, List.set_cons_zero, List.set_cons_succ])
              refine wpAnyH_ready (rs := [8]) (by kernel_rfl) (by simp) ?_
              refine AllReadyH.cons rfl (fun K hK => ?_) AllReadyH.nil
              go_simp
              have hEa := hHeld.2.2.2.2.2
              have BX0 : Bx ((w28).alloc (.cells #[.slice none 0 0, .slice none 0 0] 31)) w28.heap.size [.slice none 0 0, .slice none 0 0] := Bx.new _ _ _ _ (by first | rfl | simp)
              have hX0 : w25.heap.size ≤ w28.heap.size := by first | exact Nat.le_refl _ | (have := hHeld.2.2.2.2.2.size; (try simp at this); omega)
              (try go_wp2_with fail)
              refine hK.out _ _ ?_ (fun hHeld2 => ?_)
              · (try dsimp only); (obtain ⟨s0, s1, s2, s3, s4, s5⟩ := hHeld; exact ⟨cell_ext s0 (Ext.alloc _ _), cell_ext s1 (Ext.alloc _ _), cell_ext s2 (Ext.alloc _ _), cell_ext s3 (Ext.alloc _ _), cell_ext s4 (Ext.alloc _ _), s5.trans (Ext.alloc _ _)⟩)
              clear hK K hHeld
              rename _ => hHeld
              (try simp only [List.getElem_toArray, List.getElem_cons_succ, List.getElem_cons_zero, Act.put, List.setIfInBounds_toArray, List.set_cons_zero, List.set_cons_succ])
              refine wpAnyH_ready (rs := [9]) (by kernel_rfl) (by simp) ?_
              refine AllReadyH.cons rfl (fun K hK => ?_) AllReadyH.nil
              have x0 := BX0.cell 0 _ rfl; have x1 := BX0.cell 1 _ rfl; have xf := BX0.fr; have xl := BX0.lt; (try simp at xl)
              go_simp
              (try go_wp2_with fail)
              refine hK.out _ _ ?_ (fun hHeld2 => ?_)
              · (try dsimp only); (obtain ⟨s0, s1, s2, s3, s4, s5⟩ := hHeld; exact ⟨by first | exact cell_set2 s0 (by omega) | exact cell_alloc2 s0 (by omega), by first | exact cell_set2 s1 (by omega) | exact cell_alloc2 s1 (by omega), by first | exact cell_set2 s2 (by omega) | exact cell_alloc2 s2 (by omega), by first | exact cell_set2 s3 (by omega) | exact cell_alloc2 s3 (by omega), by first | exact cell_set2 s4 (by omega) | exact cell_alloc2 s4 (by omega), by first | exact Ext.pSet (Ext.pSet s5 hX0 _) hX0 _ | exact Ext.pAlloc hEa _⟩)
              clear hK K hHeld
              rename _ => hHeld
              (try simp only [List.getElem_toArray, List.getElem_cons_succ, List.getElem_cons_zero, Act.put, List.setIfInBounds_toArray, List.set_cons_zero, List.set_cons_succ])
              refine wpAnyH_take (i := 10) (v := ?_) rfl (by kernel_rfl) (by kernel_rfl) (by kernel_rfl) (fun _ _ _ h => h) (Or.inl ⟨by rfl, ?_⟩) (by assumption) ?_
              rotate_left
              · intro w9 hSw; (try dsimp only at hSw); go_simp; (first | done | with_reducible rfl)
              (try simp only [List.getElem_toArray, List.getElem_cons_succ, List.getElem_cons_zero, Act.put, List.setIfInBounds_toArray, List.set_cons_zero, List.set_cons_succ])
              refine wpAnyH_done (by kernel_rfl) ?_ _
              have hE9 := hHeld.2.2.2.2.2
              clear hHeld
              (try go_wp2_with fail)
              go_meet
              case rel => exact ⟨w28.heap.size, .slice b9 ((sent d_N d_M).1).1.length c9, .slice bb9 ((sent d_N d_M).1).2.length cc9, rfl, rfl, hE9, hX0, (by first | omega | (simp; done) | (simp; omega)), (by simp [go_sem, x0, x1]), (by simp [go_sem, x0, x1]), Cd.own.wide (by first | exact own_two O9w.out (by first | omega | (simp; done) | (simp; omega)) _ _ | exact Cd.own.pAlloc O9w.out _) (by first | exact o9l | (simp at o9l ⊢; omega) | omega) (by first | (simp [World.setCell]; done) | (simp [World.setCell]; omega))⟩
            · go_simp
              have hEa := hHeld.2.2.2.2.2
              have BX0 : Bx ((w27).alloc (.cells #[.slice none 0 0, .slice none 0 0] 31)) w27.heap.size [.slice none 0 0, .slice none 0 0] := Bx.new _ _ _ _ (by first | rfl | simp)
              have hX0 : w25.heap.size ≤ w27.heap.size := by first | exact Nat.le_refl _ | (have := hHeld.2.2.2.2.2.size; (try simp at this); omega)
              (try go_wp2_with fail)
              refine hK.out _ _ ?_ (fun hHeld2 => ?_)
              · (try dsimp only); (obtain ⟨s0, s1, s2, s3, s4, s5⟩ := hHeld; exact ⟨cell_ext s0 (Ext.alloc _ _), cell_ext s1 (Ext.alloc _ _), cell_ext s2 (Ext.alloc _ _), cell_ext s3 (Ext.alloc _ _), cell_ext s4 (Ext.alloc _ _), s5.trans (Ext.alloc _ _)⟩)
              clear hK K hHeld
              rename _ => hHeld
              (try simp only [List.getElem_toArray, List.getElem_cons_succ, List.getElem_cons_zero, Act.put, List.setIfInBounds_toArray, List.set_cons_zero, List.set_cons_succ])
              refine wpAnyH_ready (rs := [4]) (by kernel_rfl) (by simp) ?_
              refine AllReadyH.cons rfl (fun K hK => ?_) AllReadyH.nil
              go_simp
              refine (implSent_c _ _ _ _ _ (Cd.own.ext O_uN (by repeat (first | with_reducible exact Ext.refl _ | with_reducible assumption | with_reducible refine Ext.pAlloc ?_ _ | with_reducible refine Ext.pDrew ?_))).view (Cd.own.ext O_uM (by repeat (first | with_reducible exact Ext.refl _ | with_reducible assumption | with_reducible refine Ext.pAlloc ?_ _ | with_reducible refine Ext.pDrew ?_))).view).mono ?_
              rintro e w29 ⟨u9, v9, rfl, Ew29, O9⟩
              have O9w := Lib.hid O9; obtain ⟨⟨b9, c9, rfl⟩, bb9, cc9, rfl⟩ := net_take O9
              have o9l : w25.heap.size ≤ _ := hHeld.2.2.2.2.2.size
              have BX : Bx w29 w27.heap.size [.slice none 0 0, .slice none 0 0] := Bx.ext BX0 Ew29; clear BX0; have BX0 := BX; clear BX
              have zw29 := Ew29.size; (try simp at zw29)
              (try go_wp2_with fail)
              refine hK.out _ _ ?_ (fun hHeld2 => ?_)
              · (try dsimp only); (obtain ⟨s0, s1, s2, s3, s4, s5⟩ := hHeld; exact ⟨cell_ext s0 Ew29, cell_ext s1 Ew29, cell_ext s2 Ew29, cell_ext s3 Ew29, cell_ext s4 Ew29, s5.trans Ew29⟩)
              clear hK K hHeld
              rename _ => hHeld
              (try simp only [List.getElem_toArray, List.getElem_cons_succ, List.getElem_cons_zero, Act.put, List.setIfInBounds_toArray, List.set_cons_zero, List.set_cons_succ])
              refine wpAnyH_take (i := 5) (v := ?_) rfl (by kernel_rfl) (by kernel_rfl) (by kernel_rfl) (fun _ _ _ h => h) (Or.inl ⟨by rfl, ?_⟩) (by assumption) ?_
              rotate_left
              · intro w9 hSw; (try dsimp only at hSw); go_simp; (first | done | with_reducible rfl)
              (try simp only [List.getElem_toArray, List.getElem_cons_succ, List.getElem_cons_zero, Act.put, List.setIfInBounds_toArray, List.set_cons_zero, List.set_cons_succ])
              refine wpAnyH_take (i := 6) (v := ?_) rfl (by kernel_rfl) (by kernel_rfl) (by kernel_rfl) (fun _ _ _ h => h) (Or.inl ⟨by rfl, ?_⟩) (by assumption) ?_
              rotate_left
              · intro w9 hSw; (try dsimp only at hSw); go_simp; (first | done | with_reducible rfl)
              (try simp only [List.getElem_toArray, List.getElem_cons_succ, List.getElem_cons_zero, Act.put, List.setIfInBounds_toArray, List.set_cons_zero, List.set_cons_succ])
              refine wpAnyH_take (i := 7) (v := ?_) rfl (by kernel_rfl) (by kernel_rfl) (by kernel_rfl) (fun _ _ _ h => h) (Or.inl ⟨by rfl, ?_⟩) (by assumption) ?_
              rotate_left
              · intro w9 hSw; (try dsimp only at hSw); go_simp; (first | done | with_reducible rfl)
              (try simp only [List.getElem_toArray, List.getElem_cons_succ, List.getElem_cons_zero, Act.put, List.setIfInBounds_toArray, List.set_cons_zero, List.set_cons_succ])
              refine wpAnyH_ready (rs := [9]) (by kernel_rfl) (by simp) ?_
              refine AllReadyH.cons rfl (fun K hK => ?_) AllReadyH.nil
              have x0 := BX0.cell 0 _ rfl; have x1 := BX0.cell 1 _ rfl; have xf := BX0.fr; have xl := BX0.lt; (try simp at xl)
              go_simp
              (try go_wp2_with fail)
              refine hK.out _ _ ?_ (fun hHeld2 => ?_)
              · (try dsimp only); (obtain ⟨s0, s1, s2, s3, s4, s5⟩ := hHeld; exact ⟨by first | exact cell_set2 s0 (by omega) | exact cell_alloc2 s0 (by omega), by first | exact cell_set2 s1 (by omega) | exact cell_alloc2 s1 (by omega), by first | exact cell_set2 s2 (by omega) | exact cell_alloc2 s2 (by omega), by first | exact cell_set2 s3 (by omega) | exact cell_alloc2 s3 (by omega), by first | exact cell_set2 s4 (by omega) | exact cell_alloc2 s4 (by omega), by first | exact Ext.pSet (Ext.pSet s5 hX0 _) hX0 _ | exact Ext.pAlloc hEa _⟩)
              clear hK K hHeld
              rename _ => hHeld
              (try simp only [List.getElem_toArray, List.getElem_cons_succ, List.getElem_cons_zero, Act.put, List.setIfInBounds_toArray, List.set_cons_zero, List.set_cons_succ])
              refine wpAnyH_take (i := 10) (v := ?_) rfl (by kernel_rfl) (by kernel_rfl) (by kernel_rfl) (fun _ _ _ h => h) (Or.inl ⟨by rfl, ?_⟩) (by assumption) ?_
              rotate_left
              · intro w9 hSw; (try dsimp only at hSw); go_simp; (first | done | with_reducible rfl)
              (try simp only [List.getElem_toArray, List.getElem_cons_succ, List.getElem_cons_zero, Act.put, List.setIfInBounds_toArray, List.set_cons_zero, List.set_cons_succ])
              refine wpAnyH_done (by kernel_rfl) ?_ _
              have hE9 := hHeld.2.2.2.2.2
              clear hHeld
              (try go_wp2_with fail)
              go_meet
              case rel => exact ⟨w27.heap.size, .slice b9 ((sent d_N d_M).1).1.length c9, .slice bb9 ((sent d_N d_M).1).2.length cc9, rfl, rfl, hE9, hX0, (by first | omega | (simp; done) | (simp; omega)), (by simp [go_sem, x0, x1]), (by simp [go_sem, x0, x1]), Cd.own.wide (by first | exact own_two O9w.out (by first | omega | (simp; done) | (simp; omega)) _ _ | exact Cd.own.pAlloc O9w.out _) (by first | exact o9l | (simp at o9l ⊢; omega) | omega) (by first | (simp [World.setCell]; done) | (simp [World.setCell]; omega))⟩
          · go_simp
            have hEa := hHeld.2.2.2.2.2
            have BX0 : Bx ((w26).alloc (.cells #[.slice none 0 0, .slice none 0 0] 31)) w26.heap.size [.slice none 0 0, .slice none 0 0] := Bx.new _ _ _ _ (by first | rfl | simp)
            have hX0 : w25.heap.size ≤ w26.heap.size := by first | exact Nat.le_refl _ | (have := hHeld.2.2.2.2.2.size; (try simp at this); omega)
            (try go_wp2_with fail)
            refine hK.out _ _ ?_ (fun hHeld2 => ?_)
            · (try dsimp only); (obtain ⟨s0, s1, s2, s3, s4, s5⟩ := hHeld; exact ⟨cell_ext s0 (Ext.alloc _ _), cell_ext s1 (Ext.alloc _ _), cell_ext s2 (Ext.alloc _ _), cell_ext s3 (Ext.alloc _ _), cell_ext s4 (Ext.alloc _ _), s5.trans (Ext.alloc _ _)⟩)
            clear hK K hHeld
            rename _ => hHeld
            (try simp only [List.getElem_toArray, List.getElem_cons_succ, List.getElem_cons_zero, Act.put, List.setIfInBounds_toArray, List.set_cons_zero, List.set_cons_succ])
            refine wpAnyH_ready (rs := [3]) (by kernel_rfl) (by simp) ?_
            refine AllReadyH.cons rfl (fun K hK => ?_) AllReadyH.nil
            go_simp
            refine (toMsg_c _ d_M _ (msgC.vext H_M.out (X.trans hHeld.2.2.2.2.2)) (by first | omega | exact sz_M)).mono ?_
            rintro e w30 ⟨v_uM, rfl, Ew30, O_uM⟩
            obtain ⟨b_uM, c_uM, rfl⟩ := msg_take O_uM
            replace O_uN := Cd.own.ext O_uN (Ext.trans (by repeat (first | with_reducible exact Ext.refl _ | with_reducible assumption | with_reducible refine Ext.pAlloc ?_ _ | with_reducible refine Ext.pDrew ?_)) Ew30)
            have BX : Bx w30 w26.heap.size [.slice none 0 0, .slice none 0 0] := Bx.ext BX0 Ew30; clear BX0; have BX0 := BX; clear BX
            have zw30 := Ew30.size; (try simp at zw30)
            (try go_wp2_with fail)
            refine hK.out _ _ ?_ (fun hHeld2 => ?_)
            · (try dsimp only); (obtain ⟨s0, s1, s2, s3, s4, s5⟩ := hHeld; exact ⟨cell_ext s0 Ew30, cell_ext s1 Ew30, cell_ext s2 Ew30, cell_ext s3 Ew30, cell_ext s4 Ew30, s5.trans Ew30⟩)
            clear hK K hHeld
            rename _ => hHeld
            (try simp only [List.getElem_toArray, List.getElem_cons_succ, List.getElem_cons_zero, Act.put, List.setIfInBounds_toArray, List.set_cons_zero, List.set_cons_succ])
            refine wpAnyH_ready (rs := [4]) (by kernel_rfl) (by simp) ?_
            refine AllReadyH.cons rfl (fun K hK => ?_) AllReadyH.nil
            go_simp
            refine (implSent_c _ _ _ _ _ (Cd.own.ext O_uN (by repeat (first | with_reducible exact Ext.refl _ | with_reducible assumption | with_reducible refine Ext.pAlloc ?_ _ | with_reducible refine Ext.pDrew ?_))).view (Cd.own.ext O_uM (by repeat (first | with_reducible exact Ext.refl _ | with_reducible assumption | with_reducible refine Ext.pAlloc ?_ _ | with_reducible refine Ext.pDrew ?_))).view).mono ?_
            rintro e w31 ⟨u9, v9, rfl, Ew31, O9⟩
            have O9w := Lib.hid O9; obtain ⟨⟨b9, c9, rfl⟩, bb9, cc9, rfl⟩ := net_take O9
            have o9l : w25.heap.size ≤ _ := hHeld.2.2.2.2.2.size
            have BX : Bx w31 w26.heap.size [.slice none 0 0, .slice none 0 0] := Bx.ext BX0 Ew31; clear BX0; have BX0 := BX; clear BX
            have zw31 := Ew31.size; (try simp at zw31)
            (try go_wp2_with fail)
            refine hK.out _ _ ?_ (fun hHeld2 => ?_)
            · (try dsimp only); (obtain ⟨s0, s1, s2, s3, s4, s5⟩ := hHeld; exact ⟨cell_ext s0 Ew31, cell_ext s1 Ew31, cell_ext s2 Ew31, cell_ext s3 Ew31, cell_ext s4 Ew31, s5.trans Ew31⟩)
            clear hK K hHeld
            rename _ => hHeld
            (try simp only [List.getElem_toArray, List.getElem_cons_succ, List.getElem_cons_zero, Act.put, List.setIfInBounds_toArray, List.set_cons_zero, List.set_cons_succ])
            refine wpAnyH_take (i := 5) (v := ?_) rfl (by kernel_rfl) (by kernel_rfl) (by kernel_rfl) (fun _ _ _ h => h) (Or.inl ⟨by rfl, ?_⟩) (by assumption) ?_
            rotate_left
            · intro w9 hSw; (try dsimp only at hSw); go_simp; (first | done | with_reducible rfl)
            (try simp only [List.getElem_toArray, List.getElem_cons_succ, List.getElem_cons_zero, Act.put, List.setIfInBounds_toArray, List.set_cons_zero, List.set_cons_succ])
            refine wpAnyH_take (i := 6) (v := ?_) rfl (by kernel_rfl) (by kernel_rfl) (by kernel_rfl) (fun _ _ _ h => h) (Or.inl ⟨by rfl, ?_⟩) (by assumption) ?_
            rotate_left
            · intro w9 hSw; (try dsimp only at hSw); go_simp; (first | done | with_reducible rfl)
            (try simp only [List.getElem_toArray, List.getElem_cons_succ, List.getElem_cons_zero, Act.put, List.setIfInBounds_toArray, List.set_cons_zero, List.set_cons_succ])
            refine wpAnyH_take (i := 7) (v := ?_) rfl (by kernel_rfl) (by kernel_rfl) (by kernel_rfl) (fun _ _ _ h => h) (Or.inl ⟨by rfl, ?_⟩) (by assumption) ?_
            rotate_left
            · intro w9 hSw; (try dsimp only at hSw); go_simp; (first | done | with_reducible rfl)
            (try simp only [List.getElem_toArray, List.getElem_cons_succ, List.getElem_cons_zero, Act.put, List.setIfInBounds_toArray, List.set_cons_zero, List.set_cons_succ])
            refine wpAnyH_ready (rs := [9]) (by kernel_rfl) (by simp) ?_
            refine AllReadyH.cons rfl (fun K hK => ?_) AllReadyH.nil
            have x0 := BX0.cell 0 _ rfl; have x1 := BX0.cell 1 _ rfl; have xf := BX0.fr; have xl := BX0.lt; (try simp at xl)
            go_simp
            (try go_wp2_with fail)
            refine hK.out _ _ ?_ (fun hHeld2 => ?_)
            · (try dsimp only); (obtain ⟨s0, s1, s2, s3, s4, s5⟩ := hHeld; exact ⟨by first | exact cell_set2 s0 (by omega) | exact cell_alloc2 s0 (by omega), by first | exact cell_set2 s1 (by omega) | exact cell_alloc2 s1 (by omega), by first | exact cell_set2 s2 (by omega) | exact cell_alloc2 s2 (by omega), by first | exact cell_set2 s3 (by omega) | exact cell_alloc2 s3 (by omega), by first | exact cell_set2 s4 (by omega) | exact cell_alloc2 s4 (by omega), by first | exact Ext.pSet (Ext.pSet s5 hX0 _) hX0 _ | exact Ext.pAlloc hEa _⟩)
            clear hK K hHeld
            rename _ => hHeld
            (try simp only [List.getElem_toArray, List.getElem_cons_succ, List.getElem_cons_zero, Act.put, List.setIfInBounds_toArray, List.set_cons_zero, List.set_cons_succ])
            refine wpAnyH_take (i := 10) (v := ?_) rfl (by kernel_rfl) (by kernel_rfl) (by kernel_rfl) (fun _ _ _ h => h) (Or.inl ⟨by rfl, ?_⟩) (by assumption) ?_
            rotate_left
            · intro w9 hSw; (try dsimp only at hSw); go_simp; (first | done | with_reducible rfl)
            (try simp only [List.getElem_toArray, List.getElem_cons_succ, List.getElem_cons_zero, Act.put, List.setIfInBounds_toArray, List.set_cons_zero, List.set_cons_succ])
            refine wpAnyH_done (by kernel_rfl) ?_ _
            have hE9 := hHeld.2.2.2.2.2
            clear hHeld
            (try go_wp2_with fail)
            go_meet
            case rel => exact ⟨w26.heap.size, .slice b9 ((sent d_N d_M).1).1.length c9, .slice bb9 ((sent d_N d_M).1).2.length cc9, rfl, rfl, hE9, hX0, (by first | omega | (simp; done) | (simp; omega)), (by simp [go_sem, x0, x1]), (by simp [go_sem, x0, x1]), Cd.own.wide (by first | exact own_two O9w.out (by first | omega | (simp; done) | (simp; omega)) _ _ | exact Cd.own.pAlloc O9w.out _) (by first | exact o9l | (simp at o9l ⊢; omega) | omega) (by first | (simp [World.setCell]; done) | (simp [World.setCell]; omega))⟩
        · go_simp
          have hEa := hHeld.2.2.2.2.2
          have BX0 : Bx ((w25.drew).alloc (.cells #[.slice none 0 0, .slice none 0 0] 31)) w25.heap.size [.slice none 0 0, .slice none 0 0] := Bx.new _ _ _ _ (by first | rfl | simp)
          have hX0 : w25.heap.size ≤ w25.heap.size := by first | exact Nat.le_refl _ | (have := hHeld.2.2.2.2.2.size; (try simp at this); omega)
          (try go_wp2_with fail)
          refine hK.out _ _ ?_ (fun hHeld2 => ?_)
          · (try dsimp only); (obtain ⟨s0, s1, s2, s3, s4, s5⟩ := hHeld; exact ⟨cell_ext s0 (Ext.alloc _ _), cell_ext s1 (Ext.alloc _ _), cell_ext s2 (Ext.alloc _ _), cell_ext s3 (Ext.alloc _ _), cell_ext s4 (Ext.alloc _ _), s5.trans (Ext.alloc _ _)⟩)
          clear hK K hHeld
          rename _ => hHeld
          (try simp only [List.getElem_toArray, List.getElem_cons_succ, List.getElem_cons_zero, Act.put, List.setIfInBounds_toArray, List.set_cons_zero, List.set_cons_succ])
          refine wpAnyH_ready (rs := [1]) (by kernel_rfl) (by simp) ?_
          refine AllReadyH.cons rfl (fun K hK => ?_) AllReadyH.nil
          go_simp
          refine (toNet_c _ d_N _ (netC.vext H_N.out (X.trans hHeld.2.2.2.2.2)) (by first | omega | exact sz_N)).mono ?_
          rintro e w32 ⟨u_uN, v_uN, rfl, Ew32, O_uN⟩
          obtain ⟨⟨b_uN, c_uN, rfl⟩, bb_uN, cc_uN, rfl⟩ := net_take O_uN
          have BX : Bx w32 w25.heap.size [.slice none 0 0, .slice none 0 0] := Bx.ext BX0 Ew32; clear BX0; have BX0 := BX; clear BX
          have zw32 := Ew32.size; (try simp at zw32)
          (try go_wp2_with fail)
          refine hK.out _ _ ?_ (fun hHeld2 => ?_)
          · (try dsimp only); (obtain ⟨s0, s1, s2, s3, s4, s5⟩ := hHeld; exact ⟨cell_ext s0 Ew32, cell_ext s1 Ew32, cell_ext s2 Ew32, cell_ext s3 Ew32, cell_ext s4 Ew32, s5.trans Ew32⟩)
          clear hK K hHeld
          rename _ => hHeld
          (try simp only [List.getElem_toArray, List.getElem_cons_succ, List.getElem_cons_zero, Act.put, List.setIfInBounds_toArray, List.set_cons_zero, List.set_cons_succ])
          refine wpAnyH_ready (rs := [3]) (by kernel_rfl) (by simp) ?_
          refine AllReadyH.cons rfl (fun K hK => ?_) AllReadyH.nil
          go_simp
          refine (toMsg_c _ d_M _ (msgC.vext H_M.out (X.trans hHeld.2.2.2.2.2)) (by first | omega | exact sz_M)).mono ?_
          rintro e w33 ⟨v_uM, rfl, Ew33, O_uM⟩
          obtain ⟨b_uM, c_uM, rfl⟩ := msg_take O_uM
          replace O_uN := Cd.own.ext O_uN (Ext.trans (by repeat (first | with_reducible exact Ext.refl _ | with_reducible assumption | with_reducible refine Ext.pAlloc ?_ _ | with_reducible refine Ext.pDrew ?_)) Ew33)
          have BX : Bx w33 w25.heap.size [.slice none 0 0, .slice none 0 0] := Bx.ext BX0 Ew33; clear BX0; have BX0 := BX; clear BX
          have zw33 := Ew33.size; (try simp at zw33)
          (try go_wp2_with fail)
          refine hK.out _ _ ?_ (fun hHeld2 => ?_)
          · (try dsimp only); (obtain ⟨s0, s1, s2, s3, s4, s5⟩ := hHeld; exact ⟨cell_ext s0 Ew33, cell_ext s1 Ew33, cell_ext s2 Ew33, cell_ext s3 Ew33, cell_ext s4 Ew33, s5.trans Ew33⟩)
          clear hK K hHeld
          rename _ => hHeld
          (try simp only [List.getElem_toArray, List.getElem_cons_succ, List.getElem_cons_zero, Act.put, List.setIfInBounds_toArray, List.set_cons_zero, List.set_cons_succ])
          refine wpAnyH_ready (rs := [4]) (by kernel_rfl) (by simp) ?_
          refine AllReadyH.cons rfl (fun K hK => ?_) AllReadyH.nil
          go_simp
          refine (implSent_c _ _ _ _ _ (Cd.own.ext O_uN (by repeat (first | with_reducible exact Ext.refl _ | with_reducible assumption | with_reducible refine Ext.pAlloc ?_ _ | with_reducible refine Ext.pDrew ?_))).view (Cd.own.ext O_uM (by repeat (first | with_reducible exact Ext.refl _ | with_reducible assumption | with_reducible refine Ext.pAlloc ?_ _ | with_reducible refine Ext.pDrew ?_))).view).mono ?_
          rintro e w34 ⟨u9, v9, rfl, Ew34, O9⟩
          have O9w := Lib.hid O9; obtain ⟨⟨b9, c9, rfl⟩, bb9, cc9, rfl⟩ := net_take O9
          have o9l : w25.heap.size ≤ _ := hHeld.2.2.2.2.2.size
          have BX : Bx w34 w25.heap.size [.slice none 0 0, .slice none 0 0] := Bx.ext BX0 Ew34; clear BX0; have BX0 := BX; clear BX
          have zw34 := Ew34.size; (try simp at zw34)
          (try go_wp2_with fail)
          refine hK.out _ _ ?_ (fun hHeld2 => ?_)
          · (try dsimp only); (obtain ⟨s0, s1, s2, s3, s4, s5⟩ := hHeld; exact ⟨cell_ext s0 Ew34, cell_ext s1 Ew34, cell_ext s2 Ew34, cell_ext s3 Ew34, cell_ext s4 Ew34, s5.trans Ew34⟩)
          clear hK K hHeld
          rename _ => hHeld
          (try simp only [List.getElem_toArray, List.getElem_cons_succ, List.getElem_cons_zero, Act.put, List.setIfInBounds_toArray, List.set_cons_zero, List.set_cons_succ])
          refine wpAnyH_take (i := 5) (v := ?_) rfl (by kernel_rfl) (by kernel_rfl) (by kernel_rfl) (fun _ _ _ h => h) (Or.inl ⟨by rfl, ?_⟩) (by assumption) ?_
          rotate_left
          · intro w9 hSw; (try dsimp only at hSw); go_simp; (first | done | with_reducible rfl)
          (try simp only [List.getElem_toArray, List.getElem_cons_succ, List.getElem_cons_zero, Act.put, List.setIfInBounds_toArray, List.set_cons_zero, List.set_cons_succ])
          refine wpAnyH_take (i := 6) (v := ?_) rfl (by kernel_rfl) (by kernel_rfl) (by kernel_rfl) (fun _ _ _ h => h) (Or.inl ⟨by rfl, ?_⟩) (by assumption) ?_
          rotate_left
          · intro w9 hSw; (try dsimp only at hSw); go_simp; (first | done | with_reducible rfl)
          (try simp only [List.getElem_toArray, List.getElem_cons_succ, List.getElem_cons_zero, Act.put, List.setIfInBounds_toArray, List.set_cons_zero, List.set_cons_succ])
          refine wpAnyH_take (i := 7) (v := ?_) rfl (by kernel_rfl) (by kernel_rfl) (by kernel_rfl) (fun _ _ _ h => h) (Or.inl ⟨by rfl, ?_⟩) (by assumption) ?_
          rotate_left
          · intro w9 hSw; (try dsimp only at hSw); go_simp; (first | done | with_reducible rfl)
          (try simp only [List.getElem_toArray, List.getElem_cons_succ, List.getElem_cons_zero, Act.put, List.setIfInBounds_toArray, List.set_cons_zero, List.set_cons_succ])
          refine wpAnyH_ready (rs := [9]) (by kernel_rfl) (by simp) ?_
          refine AllReadyH.cons rfl (fun K hK => ?_) AllReadyH.nil
          have x0 := BX0.cell 0 _ rfl; have x1 := BX0.cell 1 _ rfl; have xf := BX0.fr; have xl := BX0.lt; (try simp at xl)
          go_simp
          (try go_wp2_with fail)
          refine hK.out _ _ ?_ (fun hHeld2 => ?_)
          · (try dsimp only); (obtain ⟨s0, s1, s2, s3, s4, s5⟩ := hHeld; exact ⟨by first | exact cell_set2 s0 (by omega) | exact cell_alloc2 s0 (by omega), by first | exact cell_set2 s1 (by omega) | exact cell_alloc2 s1 (by omega), by first | exact cell_set2 s2 (by omega) | exact cell_alloc2 s2 (by omega), by first | exact cell_set2 s3 (by omega) | exact cell_alloc2 s3 (by omega), by first | exact cell_set2 s4 (by omega) | exact cell_alloc2 s4 (by omega), by first | exact Ext.pSet (Ext.pSet s5 hX0 _) hX0 _ | exact Ext.pAlloc hEa _⟩)
          clear hK K hHeld
          rename _ => hHeld
          (try simp only [List.getElem_toArray, List.getElem_cons_succ, List.getElem_cons_zero, Act.put, List.setIfInBounds_toArray, List.set_cons_zero, List.set_cons_succ])
          refine wpAnyH_take (i := 10) (v := ?_) rfl (by kernel_rfl) (by kernel_rfl) (by kernel_rfl) (fun _ _ _ h => h) (Or.inl ⟨by rfl, ?_⟩) (by assumption) ?_
          rotate_left
          · intro w9 hSw; (try dsimp only at hSw); go_simp; (first | done | with_reducible rfl)
          (try simp only [List.getElem_toArray, List.getElem_cons_succ, List.getElem_cons_zero, Act.put, List.setIfInBounds_toArray, List.set_cons_zero, List.set_cons_succ])
          refine wpAnyH_done (by kernel_rfl) ?_ _
          have hE9 := hHeld.2.2.2.2.2
          clear hHeld
          (try go_wp2_with fail)
          go_meet
          case rel => exact ⟨w25.heap.size, .slice b9 ((sent d_N d_M).1).1.length c9, .slice bb9 ((sent d_N d_M).1).2.length cc9, rfl, rfl, hE9, hX0, (by first | omega | (simp; done) | (simp; omega)), (by simp [go_sem, x0, x1]), (by simp [go_sem, x0, x1]), Cd.own.wide (by first | exact own_two O9w.out (by first | omega | (simp; done) | (simp; omega)) _ _ | exact Cd.own.pAlloc O9w.out _) (by first | exact o9l | (simp at o9l ⊢; omega) | omega) (by first | (simp [World.setCell]; done) | (simp [World.setCell]; omega))⟩
      case rest =>
        obtain ⟨Xh0r0, u_h0r0, v_h0r0, rfl, rfl, Ew35, hX1, hX2, hc0, hc1, O_h0r0⟩ := hcut
        obtain ⟨w35, hw35⟩ : ∃ w35 : World, w35 = wc := ⟨_, rfl⟩
        subst hw35
        obtain ⟨⟨b_h0r0, c_h0r0, rfl⟩, bb_h0r0, cc_h0r0, rfl⟩ := net_take O_h0r0
        have Ew35c : Ext w25 w35 := Ew35
        replace O_w0r0 := O_w0r0.ext Ew35c
        replace O_g0r0 := O_g0r0.ext Ew35c
        replace B_AN_0 := cell_ext B_AN_0 Ew35c
        replace B_AN_1 := cell_ext B_AN_1 Ew35c
        replace B_AM_0 := cell_ext B_AM_0 Ew35c
        replace B_AM_1 := cell_ext B_AM_1 Ew35c
        replace B_AM_2 := cell_ext B_AM_2 Ew35c
        replace B_w0r0_0 := cell_ext B_w0r0_0 Ew35c
        replace B_w0r0_1 := cell_ext B_w0r0_1 Ew35c
        replace B_g0r0_0 := cell_ext B_g0r0_0 Ew35c
        replace B_g0r0_1 := cell_ext B_g0r0_1 Ew35c
        have Sw35 : w25.heap.size ≤ w35.heap.size := by have := Ew35.size; (try simp at this); omega
        replace X := X.trans Ew35c
        clear Ew35 Ew35c
        have B_h0r0_0 := hc0; have B_h0r0_1 := hc1; clear hc0 hc1
        go_wp2_with fail
        refine (eqNet_c _ _ _ _ _ O_h0r0.view O_w0r0.view).mono ?_
        rintro e w36 ⟨rfl, Ew36⟩
        have Ew36c : Ext w35 w36 := Ew36
        replace O_w0r0 := O_w0r0.ext Ew36c
        replace O_g0r0 := O_g0r0.ext Ew36c
        replace O_h0r0 := O_h0r0.ext Ew36c
        replace B_AN_0 := cell_ext B_AN_0 Ew36c
        replace B_AN_1 := cell_ext B_AN_1 Ew36c
        replace B_AM_0 := cell_ext B_AM_0 Ew36c
        replace B_AM_1 := cell_ext B_AM_1 Ew36c
        replace B_AM_2 := cell_ext B_AM_2 Ew36c
        replace B_w0r0_0 := cell_ext B_w0r0_0 Ew36c
        replace B_w0r0_1 := cell_ext B_w0r0_1 Ew36c
        replace B_g0r0_0 := cell_ext B_g0r0_0 Ew36c
        replace B_g0r0_1 := cell_ext B_g0r0_1 Ew36c
        replace B_h0r0_0 := cell_ext B_h0r0_0 Ew36c
        replace B_h0r0_1 := cell_ext B_h0r0_1 Ew36c
        have Sw36 : w35.heap.size ≤ w36.heap.size := by have := Ew36.size; (try simp at this); omega
        replace X := X.trans Ew36c
        clear Ew36 Ew36c
        go_wp2_with fail
        refine (heldNet_c _ ((sent d_N d_M).1) _ _ O_g0r0.view (by omega) (by omega)).mono ?_
        rintro e w37 ⟨rfl, Ew37⟩
        have Ew37c : Ext w36 w37 := Ew37
        replace O_w0r0 := O_w0r0.ext Ew37c
        replace O_g0r0 := O_g0r0.ext Ew37c
        replace O_h0r0 := O_h0r0.ext Ew37c
        replace B_AN_0 := cell_ext B_AN_0 Ew37c
        replace B_AN_1 := cell_ext B_AN_1 Ew37c
        replace B_AM_0 := cell_ext B_AM_0 Ew37c
        replace B_AM_1 := cell_ext B_AM_1 Ew37c
        replace B_AM_2 := cell_ext B_AM_2 Ew37c
        replace B_w0r0_0 := cell_ext B_w0r0_0 Ew37c
        replace B_w0r0_1 := cell_ext B_w0r0_1 Ew37c
        replace B_g0r0_0 := cell_ext B_g0r0_0 Ew37c
        replace B_g0r0_1 := cell_ext B_g0r0_1 Ew37c
        replace B_h0r0_0 := cell_ext B_h0r0_0 Ew37c
        replace B_h0r0_1 := cell_ext B_h0r0_1 Ew37c
        have Sw37 : w36.heap.size ≤ w37.heap.size := by have := Ew37.size; (try simp at this); omega
        replace X := X.trans Ew37c
        clear Ew37 Ew37c
        go_wp2
        go_ret
        exact ⟨rfl, X⟩

set_option maxRecDepth 100000 in
theorem exactsent_holds : Rows.FnExactSentSaid :=
  OpenClaim.holds_of_wide 7 Try.f7 rfl rfl rfl rfl rfl rfl rfl ⟨rfl, rfl, rfl, rfl, rfl⟩ rfl rfl rfl rfl rfl (by kernel_rfl) Try.func7 (by kernel_rfl)
    (of_decide_eq_true (by kernel_rfl)) (by unfold Func.isWrapper; rw [if_neg (of_decide_eq_false (by kernel_rfl))]; exact ⟨rfl, rfl⟩)
    (fun os started H enc _ => law_lifted (C := Try.checked) (f := 7) (fn := Try.f7) (s := Rows.fnExactSentSpec) (tb := 4) Try.own started (by kernel_rfl) Try.func7 Try.laidOut (of_decide_eq_true (by kernel_rfl)) rfl Try.underlying4 rfl
      (fun ds h => by match ds, h with | [_, _], _ => exact ⟨rfl, rfl, rfl⟩)
      (ChangeSpec.witness6 (enc := enc) (C := Try.checked) false ⟨#[], #[.agg #[.slice none 0 0, .slice none 0 0], .agg #[.int .i64 0, .int .i64 0, .slice none 0 0]], []⟩ 8 (by kernel_rfl) (by kernel_rfl) (by kernel_rfl) (by kernel_rfl))
      exactsent_c)

end Go.Proofs.Ytkigfmkdbgcpeaa
