/- Networks compared; the letters to a node. -/
import Derived.Test.YtkigfmkdbgcpeaaNt3
set_option linter.unusedVariables false
set_option linter.unusedSimpArgs false
namespace Go.Proofs.Ytkigfmkdbgcpeaa
open Go.RowKit Go.Sl

set_option maxHeartbeats 800000 in
theorem sameMsg_c (cs ds : List Value) (m n : MsgD) (w : World) (h0 : msgC.V w cs m) (h0' : msgC.V w ds n) :
    Calls Try.prog 67 #[.agg cs.toArray, .agg ds.toArray] w fun e w' => e = .returned (.bool (decide (m = n))) ∧ Ext w w' := by
  obtain ⟨v1, rfl, h⟩ := msg_V.1 h0
  obtain ⟨v2, rfl, h'⟩ := msg_V.1 h0'
  clear h0 h0'
  obtain ⟨f, t, l⟩ := m
  obtain ⟨f', t', l'⟩ := n
  simp only at h h' ⊢
  have H := Lib.hid (And.intro h h')
  obtain ⟨a, cap, rfl, h1, h2, hc⟩ := row_open h
  obtain ⟨a', cap', rfl, h1', h2', hc'⟩ := row_open h'
  clear h h' hc hc'
  by_cases hf : f = f'
  · have hn : (f == f') = true := by rw [beq_iff_eq]; exact hf
    have Hf := Lib.hid hf; clear hf
    by_cases ht : t = t'
    · have hn2 : (t == t') = true := by rw [beq_iff_eq]; exact ht
      have Ht := Lib.hid ht; clear ht
      cases hl : decide (l = l')
      all_goals
        go_enter Try.func67, Try.ntmps67
        go_wp2_with (go_at_call 98; refine (implSameRow_c _ _ l l' _ (rowC.vext H.out.1 (by repeat (first | with_reducible exact Ext.refl _ | with_reducible assumption | with_reducible refine Ext.pAlloc ?_ _ | ((with_reducible refine Ext.pSet ?_ ?_ _); rotate_left; (simp <;> omega)) | with_reducible refine Ext.pDrew ?_ | with_reducible refine Ext.pDrewN ?_ _ | with_reducible refine Ext.trans ?_ (by with_reducible assumption)))) (rowC.vext H.out.2 (by repeat (first | with_reducible exact Ext.refl _ | with_reducible assumption | with_reducible refine Ext.pAlloc ?_ _ | ((with_reducible refine Ext.pSet ?_ ?_ _); rotate_left; (simp <;> omega)) | with_reducible refine Ext.pDrew ?_ | with_reducible refine Ext.pDrewN ?_ _ | with_reducible refine Ext.trans ?_ (by with_reducible assumption))))).mono ?_; rw [hl]; rintro e w1 ⟨rfl, hE⟩)
        go_ret
        exact ⟨retB (by have := Hf.out; have := Ht.out; simp_all), by repeat (first | with_reducible exact Ext.refl _ | with_reducible assumption | with_reducible refine Ext.pAlloc ?_ _ | ((with_reducible refine Ext.pSet ?_ ?_ _); rotate_left; (simp <;> omega)) | with_reducible refine Ext.pDrew ?_ | with_reducible refine Ext.pDrewN ?_ _ | with_reducible refine Ext.trans ?_ (by with_reducible assumption))⟩
    · have hn2 : (t == t') = false := by rw [beq_eq_false_iff_ne]; exact ht
      have Ht := Lib.hid ht; clear ht
      go_enter Try.func67, Try.ntmps67
      go_wp2
      go_ret
      exact ⟨retB (by simp [Ht.out]), by repeat (first | with_reducible exact Ext.refl _ | with_reducible assumption | with_reducible refine Ext.pAlloc ?_ _ | ((with_reducible refine Ext.pSet ?_ ?_ _); rotate_left; (simp <;> omega)) | with_reducible refine Ext.pDrew ?_ | with_reducible refine Ext.pDrewN ?_ _ | with_reducible refine Ext.trans ?_ (by with_reducible assumption))⟩
  · have hn : (f == f') = false := by rw [beq_eq_false_iff_ne]; exact hf
    have Hf := Lib.hid hf; clear hf
    go_enter Try.func67, Try.ntmps67
    go_wp2
    go_ret
    exact ⟨retB (by simp [Hf.out]), by repeat (first | with_reducible exact Ext.refl _ | with_reducible assumption | with_reducible refine Ext.pAlloc ?_ _ | ((with_reducible refine Ext.pSet ?_ ?_ _); rotate_left; (simp <;> omega)) | with_reducible refine Ext.pDrew ?_ | with_reducible refine Ext.pDrewN ?_ _ | with_reducible refine Ext.trans ?_ (by with_reducible assumption))⟩

set_option maxHeartbeats 800000 in
theorem l5SameMsg_c (cs ds : List Value) (m n : MsgD) (w : World) (h0 : msgC.V w cs m) (h0' : msgC.V w ds n) :
    Calls Try.prog 97 #[.agg cs.toArray, .agg ds.toArray] w fun e w' => e = .returned (.bool (decide (m = n))) ∧ Ext w w' := by
  obtain ⟨v1, rfl, h⟩ := msg_V.1 h0
  obtain ⟨v2, rfl, h'⟩ := msg_V.1 h0'
  clear h0 h0'
  obtain ⟨f, t, l⟩ := m
  obtain ⟨f', t', l'⟩ := n
  simp only at h h' ⊢
  have H := Lib.hid (And.intro h h')
  obtain ⟨a, cap, rfl, h1, h2, hc⟩ := row_open h
  obtain ⟨a', cap', rfl, h1', h2', hc'⟩ := row_open h'
  clear h h' hc hc'
  by_cases hf : f = f'
  · have hn : (f == f') = true := by rw [beq_iff_eq]; exact hf
    have Hf := Lib.hid hf; clear hf
    by_cases ht : t = t'
    · have hn2 : (t == t') = true := by rw [beq_iff_eq]; exact ht
      have Ht := Lib.hid ht; clear ht
      cases hl : decide (l = l')
      all_goals
        go_enter Try.func97, Try.ntmps97
        go_wp2_with (go_at_call 105; refine (specSameRow_c _ _ l l' _ (rowC.vext H.out.1 (by repeat (first | with_reducible exact Ext.refl _ | with_reducible assumption | with_reducible refine Ext.pAlloc ?_ _ | ((with_reducible refine Ext.pSet ?_ ?_ _); rotate_left; (simp <;> omega)) | with_reducible refine Ext.pDrew ?_ | with_reducible refine Ext.pDrewN ?_ _ | with_reducible refine Ext.trans ?_ (by with_reducible assumption)))) (rowC.vext H.out.2 (by repeat (first | with_reducible exact Ext.refl _ | with_reducible assumption | with_reducible refine Ext.pAlloc ?_ _ | ((with_reducible refine Ext.pSet ?_ ?_ _); rotate_left; (simp <;> omega)) | with_reducible refine Ext.pDrew ?_ | with_reducible refine Ext.pDrewN ?_ _ | with_reducible refine Ext.trans ?_ (by with_reducible assumption))))).mono ?_; rw [hl]; rintro e w1 ⟨rfl, hE⟩)
        go_ret
        exact ⟨retB (by have := Hf.out; have := Ht.out; simp_all), by repeat (first | with_reducible exact Ext.refl _ | with_reducible assumption | with_reducible refine Ext.pAlloc ?_ _ | ((with_reducible refine Ext.pSet ?_ ?_ _); rotate_left; (simp <;> omega)) | with_reducible refine Ext.pDrew ?_ | with_reducible refine Ext.pDrewN ?_ _ | with_reducible refine Ext.trans ?_ (by with_reducible assumption))⟩
    · have hn2 : (t == t') = false := by rw [beq_eq_false_iff_ne]; exact ht
      have Ht := Lib.hid ht; clear ht
      go_enter Try.func97, Try.ntmps97
      go_wp2
      go_ret
      exact ⟨retB (by simp [Ht.out]), by repeat (first | with_reducible exact Ext.refl _ | with_reducible assumption | with_reducible refine Ext.pAlloc ?_ _ | ((with_reducible refine Ext.pSet ?_ ?_ _); rotate_left; (simp <;> omega)) | with_reducible refine Ext.pDrew ?_ | with_reducible refine Ext.pDrewN ?_ _ | with_reducible refine Ext.trans ?_ (by with_reducible assumption))⟩
  · have hn : (f == f') = false := by rw [beq_eq_false_iff_ne]; exact hf
    have Hf := Lib.hid hf; clear hf
    go_enter Try.func97, Try.ntmps97
    go_wp2
    go_ret
    exact ⟨retB (by simp [Hf.out]), by repeat (first | with_reducible exact Ext.refl _ | with_reducible assumption | with_reducible refine Ext.pAlloc ?_ _ | ((with_reducible refine Ext.pSet ?_ ?_ _); rotate_left; (simp <;> omega)) | with_reducible refine Ext.pDrew ?_ | with_reducible refine Ext.pDrewN ?_ _ | with_reducible refine Ext.trans ?_ (by with_reducible assumption))⟩

set_option maxRecDepth 20000 in
set_option maxHeartbeats 1600000 in
set_option maxRecDepth 20000 in
theorem l5SameMsgs_c (v1 v2 : Value) (l m : List MsgD) (w : World) (h : msgsC.V w [v1] l) (hm : msgsC.V w [v2] m) :
    Calls Try.prog 65 #[v1, v2] w fun e w' => e = .returned (.bool (decide (l = m))) ∧ Ext w w' := by
  obtain ⟨a, cap, rfl, h1, h2, hc⟩ := slice_open (R := msgC) (by decide) h
  obtain ⟨a', cap', rfl, h1', h2', hc'⟩ := slice_open (R := msgC) (by decide) hm
  clear h hm
  by_cases hl : l.length = m.length
  · have hl' : ((l.length : Int) != (m.length : Int)) = false := by rw [bne_eq_false_iff_eq]; omega
    have Hl := Lib.hid hl; clear hl
    go_enter Try.func65, Try.ntmps65
    go_wp2
    go_loopw [5] (fun i wr => ∃ k : Nat, k ≤ l.length ∧ i = .int .i64 k ∧ Hid (l.take k = m.take k) ∧ Ext w wr) (fun i _ => l.length - (intOf i).toNat)
    case atStart => exact ⟨0, Nat.zero_le _, rfl, rfl, Ext.refl _⟩
    case round =>
      obtain ⟨k, hk, rfl, hp, hE⟩ := hrel
      by_cases hlt : k < l.length
      · obtain ⟨b, off, x, c, rfl, hx, hv, hcell⟩ := hc k hlt
        obtain ⟨b', off', y, c', rfl, hy, hv', hcell'⟩ := hc' k (by rw [← Hl.out]; exact hlt)
        clear hc hc'
        have HV := Lib.hid (And.intro (msgC.vext hv hE) (msgC.vext hv' hE))
        obtain ⟨u, rfl, _⟩ := msg_V.1 hv
        obtain ⟨u', rfl, _⟩ := msg_V.1 hv'
        have hc0 : wr.cell? ⟨b, off + k * 3, none⟩ = some (.int .i64 x.1) := cell_ext (hcell 0 _ rfl) hE
        have hc1 : wr.cell? ⟨b, off + k * 3 + 1, none⟩ = some (.int .i64 x.2.1) := cell_ext (hcell 1 _ rfl) hE
        have hc2 : wr.cell? ⟨b, off + k * 3 + 2, none⟩ = some u := cell_ext (hcell 2 _ rfl) hE
        have hd0 : wr.cell? ⟨b', off' + k * 3, none⟩ = some (.int .i64 y.1) := cell_ext (hcell' 0 _ rfl) hE
        have hd1 : wr.cell? ⟨b', off' + k * 3 + 1, none⟩ = some (.int .i64 y.2.1) := cell_ext (hcell' 1 _ rfl) hE
        have hd2 : wr.cell? ⟨b', off' + k * 3 + 2, none⟩ = some u' := cell_ext (hcell' 2 _ rfl) hE
        clear hcell hcell' hv hv'
        have hi1 : (0 : Int) ≤ k := by omega
        have hi2 : (k : Int) < l.length := by omega
        have hi3 : (k : Int) < m.length := by have := Hl.out; omega
        by_cases hxy : x = y
        · have hd : decide (x = y) = true := by simp [hxy]
          have Hxy := Lib.hid (And.intro hxy hd); clear hxy hd
          go_wp2
          go_still_tail 8, (by kernel_rfl)
          change wpList _ _ _ _ _ wr.drew
          go_wp2_with fail
          refine (l5SameMsg_c _ _ x y _ (msgC.vext HV.out.1 (Ext.drew _)) (msgC.vext HV.out.2 (Ext.drew _))).mono ?_
          rw [Hxy.out.2]
          rintro e w1 ⟨rfl, hE1⟩
          go_wp2
          go_roundw
          case rel => exact ⟨k + 1, by omega, by go_num, Lib.hid (by rw [take_snoc hx, take_snoc hy, hp.out, Hxy.out.1]), hE.trans ((Ext.drew _).trans hE1)⟩
          case measure => simp [intOf]; omega
        · have hd : decide (x = y) = false := by simp [hxy]
          have Hxy := Lib.hid (And.intro hxy hd); clear hxy hd
          go_wp2
          go_still_tail 8, (by kernel_rfl)
          change wpList _ _ _ _ _ wr.drew
          go_wp2_with fail
          refine (l5SameMsg_c _ _ x y _ (msgC.vext HV.out.1 (Ext.drew _)) (msgC.vext HV.out.2 (Ext.drew _))).mono ?_
          rw [Hxy.out.2]
          rintro e w1 ⟨rfl, hE1⟩
          go_wp2
          go_ret
          exact ⟨retB (by symm; rw [decide_eq_false_iff_not]; rintro rfl; exact Hxy.out.1 (Option.some.inj (hx.out.symm.trans hy.out))), hE.trans ((Ext.drew _).trans hE1)⟩
      · have he : k = l.length := by omega
        have He := Lib.hid he; clear he
        go_wp2
        go_ret
        exact ⟨retB (by symm; rw [decide_eq_true_iff]; exact take_all hp.out He.out Hl.out), hE⟩
  · have hl' : ((l.length : Int) != (m.length : Int)) = true := by rw [bne_iff_ne]; omega
    go_enter Try.func65, Try.ntmps65
    go_wp2
    go_ret
    exact ⟨retB (by symm; rw [decide_eq_false_iff_not]; intro e; exact hl (by rw [e])), Ext.refl _⟩

set_option maxHeartbeats 1600000 in
set_option maxRecDepth 20000 in
theorem msgsEqual_c (v1 v2 : Value) (l m : List MsgD) (w : World) (h : msgsC.V w [v1] l) (hm : msgsC.V w [v2] m) :
    Calls Try.prog 66 #[v1, v2, .func (.func 67) #[] #[]] w fun e w' => e = .returned (.bool (decide (l = m))) ∧ Ext w w' := by
  obtain ⟨a, cap, rfl, h1, h2, hc⟩ := slice_open (R := msgC) (by decide) h
  obtain ⟨a', cap', rfl, h1', h2', hc'⟩ := slice_open (R := msgC) (by decide) hm
  clear h hm
  by_cases hl : l.length = m.length
  · have hl' : ((l.length : Int) != (m.length : Int)) = false := by rw [bne_eq_false_iff_eq]; omega
    have Hl := Lib.hid hl; clear hl
    go_enter Try.func66, Try.ntmps66
    go_wp2
    go_loopw [7, 17] (fun _ i wr => ∃ k : Nat, k ≤ l.length ∧ i = .int .i64 k ∧ Hid (l.take k = m.take k) ∧ Ext w wr) (fun _ i _ => l.length - (intOf i).toNat)
    case atStart => exact ⟨0, Nat.zero_le _, rfl, rfl, Ext.refl _⟩
    case round =>
      obtain ⟨k, hk, rfl, hp, hE⟩ := hrel
      by_cases hlt : k < l.length
      · obtain ⟨b, off, x, c, rfl, hx, hv, hcell⟩ := hc k hlt
        obtain ⟨b', off', y, c', rfl, hy, hv', hcell'⟩ := hc' k (by rw [← Hl.out]; exact hlt)
        clear hc hc'
        have HV := Lib.hid (And.intro (msgC.vext hv hE) (msgC.vext hv' hE))
        obtain ⟨u, rfl, hu⟩ := msg_V.1 hv
        obtain ⟨u', rfl, hu'⟩ := msg_V.1 hv'
        obtain ⟨ua, uc, rfl⟩ := u_slice hu
        obtain ⟨ua', uc', rfl⟩ := u_slice hu'
        have hc0 : wr.cell? ⟨b, off + k * 3, none⟩ = some (.int .i64 x.1) := cell_ext (hcell 0 _ rfl) hE
        have hc1 : wr.cell? ⟨b, off + k * 3 + 1, none⟩ = some (.int .i64 x.2.1) := cell_ext (hcell 1 _ rfl) hE
        have hc2 : wr.cell? ⟨b, off + k * 3 + 2, none⟩ = some (.slice ua x.2.2.length uc) := cell_ext (hcell 2 _ rfl) hE
        have hd0 : wr.cell? ⟨b', off' + k * 3, none⟩ = some (.int .i64 y.1) := cell_ext (hcell' 0 _ rfl) hE
        have hd1 : wr.cell? ⟨b', off' + k * 3 + 1, none⟩ = some (.int .i64 y.2.1) := cell_ext (hcell' 1 _ rfl) hE
        have hd2 : wr.cell? ⟨b', off' + k * 3 + 2, none⟩ = some (.slice ua' y.2.2.length uc') := cell_ext (hcell' 2 _ rfl) hE
        clear hcell hcell' hv hv' hu hu'
        have nb := World.block_lt_of_cell? _ _ hc0
        have nb' := World.block_lt_of_cell? _ _ hd0
        have hi1 : (0 : Int) ≤ k := by omega
        have hi2 : (k : Int) < l.length := by omega
        have hi3 : (k : Int) < m.length := by have := Hl.out; omega
        by_cases hxy : x = y
        · have hd : decide (x = y) = true := by simp [hxy]
          have Hxy := Lib.hid (And.intro hxy hd); clear hxy hd
          go_wp2_with fail
          refine (sameMsg_c _ _ x y _ (msgC.vext HV.out.1 (by repeat (first | with_reducible exact Ext.refl _ | with_reducible assumption | with_reducible refine Ext.pAlloc ?_ _ | ((with_reducible refine Ext.pSet ?_ ?_ _); rotate_left; (simp <;> omega)) | with_reducible refine Ext.pDrew ?_ | with_reducible refine Ext.pDrewN ?_ _ | with_reducible refine Ext.trans ?_ (by with_reducible assumption)))) (msgC.vext HV.out.2 (by repeat (first | with_reducible exact Ext.refl _ | with_reducible assumption | with_reducible refine Ext.pAlloc ?_ _ | ((with_reducible refine Ext.pSet ?_ ?_ _); rotate_left; (simp <;> omega)) | with_reducible refine Ext.pDrew ?_ | with_reducible refine Ext.pDrewN ?_ _ | with_reducible refine Ext.trans ?_ (by with_reducible assumption))))).mono ?_
          rw [Hxy.out.2]
          rintro e w1 ⟨rfl, hE1⟩
          have hX : Ext w w1 := hE.trans (Ext.trans (by repeat (first | with_reducible exact Ext.refl _ | with_reducible assumption | with_reducible refine Ext.pAlloc ?_ _ | ((with_reducible refine Ext.pSet ?_ ?_ _); rotate_left; (simp <;> omega)) | with_reducible refine Ext.pDrew ?_ | with_reducible refine Ext.pDrewN ?_ _ | with_reducible refine Ext.trans ?_ (by with_reducible assumption))) hE1)
          clear hE1 hE
          go_wp2
          go_roundw
          case rel => exact ⟨k + 1, by omega, by go_num, Lib.hid (by rw [take_snoc hx, take_snoc hy, hp.out, Hxy.out.1]), hX⟩
          case measure => simp [intOf]; omega
        · have hd : decide (x = y) = false := by simp [hxy]
          have Hxy := Lib.hid (And.intro hxy hd); clear hxy hd
          go_wp2_with fail
          refine (sameMsg_c _ _ x y _ (msgC.vext HV.out.1 (by repeat (first | with_reducible exact Ext.refl _ | with_reducible assumption | with_reducible refine Ext.pAlloc ?_ _ | ((with_reducible refine Ext.pSet ?_ ?_ _); rotate_left; (simp <;> omega)) | with_reducible refine Ext.pDrew ?_ | with_reducible refine Ext.pDrewN ?_ _ | with_reducible refine Ext.trans ?_ (by with_reducible assumption)))) (msgC.vext HV.out.2 (by repeat (first | with_reducible exact Ext.refl _ | with_reducible assumption | with_reducible refine Ext.pAlloc ?_ _ | ((with_reducible refine Ext.pSet ?_ ?_ _); rotate_left; (simp <;> omega)) | with_reducible refine Ext.pDrew ?_ | with_reducible refine Ext.pDrewN ?_ _ | with_reducible refine Ext.trans ?_ (by with_reducible assumption))))).mono ?_
          rw [Hxy.out.2]
          rintro e w1 ⟨rfl, hE1⟩
          have hX : Ext w w1 := hE.trans (Ext.trans (by repeat (first | with_reducible exact Ext.refl _ | with_reducible assumption | with_reducible refine Ext.pAlloc ?_ _ | ((with_reducible refine Ext.pSet ?_ ?_ _); rotate_left; (simp <;> omega)) | with_reducible refine Ext.pDrew ?_ | with_reducible refine Ext.pDrewN ?_ _ | with_reducible refine Ext.trans ?_ (by with_reducible assumption))) hE1)
          clear hE1 hE
          go_wp2
          go_ret
          exact ⟨retB (by symm; rw [decide_eq_false_iff_not]; rintro rfl; exact Hxy.out.1 (Option.some.inj (hx.out.symm.trans hy.out))), hX⟩
      · have he : k = l.length := by omega
        have He := Lib.hid he; clear he
        go_wp2
        go_ret
        exact ⟨retB (by symm; rw [decide_eq_true_iff]; exact take_all hp.out He.out Hl.out), hE⟩
  · have hl' : ((l.length : Int) != (m.length : Int)) = true := by rw [bne_iff_ne]; omega
    go_enter Try.func66, Try.ntmps66
    go_wp2
    go_ret
    exact ⟨retB (by symm; rw [decide_eq_false_iff_not]; intro e; exact hl (by rw [e])), Ext.refl _⟩

set_option maxHeartbeats 1600000 in
set_option maxRecDepth 20000 in
theorem linksEqual_c (v1 v2 : Value) (l m : List LinkD) (w : World) (h : linksC.V w [v1] l) (hm : linksC.V w [v2] m) :
    Calls Try.prog 68 #[v1, v2] w fun e w' => e = .returned (.bool (decide (l = m))) ∧ Ext w w' := by
  obtain ⟨a, cap, rfl, h1, h2, hc⟩ := slice_open (R := linkC) (by decide) h
  obtain ⟨a', cap', rfl, h1', h2', hc'⟩ := slice_open (R := linkC) (by decide) hm
  have HGD := Lib.hid link_guard
  clear h hm
  by_cases hl : l.length = m.length
  · have hl' : ((l.length : Int) != (m.length : Int)) = false := by rw [bne_eq_false_iff_eq]; omega
    have Hl := Lib.hid hl; clear hl
    go_enter Try.func68, Try.ntmps68
    go_wp2
    go_loopw [5, 13] (fun _ i wr => ∃ k : Nat, k ≤ l.length ∧ i = .int .i64 k ∧ Hid (l.take k = m.take k) ∧ Ext w wr) (fun _ i _ => l.length - (intOf i).toNat)
    case atStart => exact ⟨0, Nat.zero_le _, rfl, rfl, Ext.refl _⟩
    case round =>
      obtain ⟨k, hk, rfl, hp, hE⟩ := hrel
      by_cases hlt : k < l.length
      · obtain ⟨b, off, x, c, rfl, hx, hv, hcell⟩ := hc k hlt
        obtain ⟨b', off', y, c', rfl, hy, hv', hcell'⟩ := hc' k (by rw [← Hl.out]; exact hlt)
        clear hc hc'
        obtain rfl := link_V.1 hv
        obtain rfl := link_V.1 hv'
        clear hv hv'
        obtain ⟨f, t⟩ := x
        obtain ⟨g, r⟩ := y
        have hc0 : wr.cell? ⟨b, off + k * 2, none⟩ = some (.int .i64 f) := cell_ext (hcell 0 _ rfl) hE
        have hc1 : wr.cell? ⟨b, off + k * 2 + 1, none⟩ = some (.int .i64 t) := cell_ext (hcell 1 _ rfl) hE
        have hd0 : wr.cell? ⟨b', off' + k * 2, none⟩ = some (.int .i64 g) := cell_ext (hcell' 0 _ rfl) hE
        have hd1 : wr.cell? ⟨b', off' + k * 2 + 1, none⟩ = some (.int .i64 r) := cell_ext (hcell' 1 _ rfl) hE
        clear hcell hcell'
        have hi1 : (0 : Int) ≤ k := by omega
        have hi2 : (k : Int) < l.length := by omega
        have hi3 : (k : Int) < m.length := by have := Hl.out; omega
        have hgd := HGD.out
        by_cases hxy : (f, t) = (g, r)
        · have heq := link_neq_is (a := f) (b := t) (c := g) (d := r) (r := true) (by simp [hxy])
          have Hxy := Lib.hid hxy; clear hxy
          go_wp2
          go_quiet (fail)
          go_wp2
          go_roundw
          case rel => exact ⟨k + 1, by omega, by go_num, Lib.hid (by rw [take_snoc hx, take_snoc hy, hp.out, Hxy.out]), by repeat (first | with_reducible exact Ext.refl _ | with_reducible assumption | with_reducible refine Ext.pAlloc ?_ _ | ((with_reducible refine Ext.pSet ?_ ?_ _); rotate_left; (simp <;> omega)) | with_reducible refine Ext.pDrew ?_ | with_reducible refine Ext.pDrewN ?_ _ | with_reducible refine Ext.trans ?_ (by with_reducible assumption))⟩
          case measure => simp [intOf]; omega
        · have heq := link_neq_is (a := f) (b := t) (c := g) (d := r) (r := false) (by simpa using hxy)
          have Hxy := Lib.hid hxy; clear hxy
          go_wp2
          go_quiet (fail)
          go_wp2
          go_ret
          exact ⟨retB (by symm; rw [decide_eq_false_iff_not]; intro e; subst e; exact Hxy.out (Option.some.inj (hx.out.symm.trans hy.out))), by repeat (first | with_reducible exact Ext.refl _ | with_reducible assumption | with_reducible refine Ext.pAlloc ?_ _ | ((with_reducible refine Ext.pSet ?_ ?_ _); rotate_left; (simp <;> omega)) | with_reducible refine Ext.pDrew ?_ | with_reducible refine Ext.pDrewN ?_ _ | with_reducible refine Ext.trans ?_ (by with_reducible assumption))⟩
      · have he : k = l.length := by omega
        have He := Lib.hid he; clear he
        go_wp2
        go_ret
        exact ⟨retB (by symm; rw [decide_eq_true_iff]; exact take_all hp.out He.out Hl.out), hE⟩
  · have hl' : ((l.length : Int) != (m.length : Int)) = true := by rw [bne_iff_ne]; omega
    go_enter Try.func68, Try.ntmps68
    go_wp2
    go_ret
    exact ⟨retB (by symm; rw [decide_eq_false_iff_not]; intro e; exact hl (by rw [e])), Ext.refl _⟩

set_option maxHeartbeats 1600000 in
set_option maxRecDepth 20000 in
theorem implSameNet_c (cs ds : List Value) (d1 d2 : NetD) (w : World) (h : netC.V w cs d1) (h' : netC.V w ds d2) :
    Calls Try.prog 21 #[.agg cs.toArray, .agg ds.toArray] w fun e w' => e = .returned (.bool (decide (d1 = d2))) ∧ Ext w w' := by
  obtain ⟨u1, v1, rfl, hu1, hv1⟩ := net_V.1 h
  obtain ⟨u2, v2, rfl, hu2, hv2⟩ := net_V.1 h'
  obtain ⟨ms, l⟩ := d1
  obtain ⟨ms', m⟩ := d2
  simp only at hu1 hv1 hu2 hv2
  have HU := Lib.hid (And.intro hu1 hu2)
  have HV := Lib.hid (And.intro hv1 hv2)
  obtain ⟨ua, uc, rfl⟩ := sl_form hu1
  obtain ⟨ua', uc', rfl⟩ := sl_form hu2
  obtain ⟨a, cap, rfl, h1, h2, hc⟩ := slice_open (R := linkC) (by decide) hv1
  obtain ⟨a', cap', rfl, h1', h2', hc'⟩ := slice_open (R := linkC) (by decide) hv2
  clear h h' hu1 hu2 hv1 hv2
  clear hc hc'
  cases hr : decide (ms = ms')
  · go_enter Try.func21, Try.ntmps21
    go_wp2_with fail
    refine (msgsEqual_c _ _ ms ms' _ (msgsC.vext HU.out.1 (by repeat (first | with_reducible exact Ext.refl _ | with_reducible assumption | with_reducible refine Ext.pAlloc ?_ _ | ((with_reducible refine Ext.pSet ?_ ?_ _); rotate_left; (simp <;> omega)) | with_reducible refine Ext.pDrew ?_ | with_reducible refine Ext.pDrewN ?_ _ | with_reducible refine Ext.trans ?_ (by with_reducible assumption)))) (msgsC.vext HU.out.2 (by repeat (first | with_reducible exact Ext.refl _ | with_reducible assumption | with_reducible refine Ext.pAlloc ?_ _ | ((with_reducible refine Ext.pSet ?_ ?_ _); rotate_left; (simp <;> omega)) | with_reducible refine Ext.pDrew ?_ | with_reducible refine Ext.pDrewN ?_ _ | with_reducible refine Ext.trans ?_ (by with_reducible assumption))))).mono ?_
    rw [hr]
    rintro e w1 ⟨rfl, hE⟩
    go_wp2
    go_ret
    exact ⟨retB (by symm; rw [decide_eq_false_iff_not]; intro e; exact of_decide_eq_false hr (Prod.mk.inj e).1), by repeat (first | with_reducible exact Ext.refl _ | with_reducible assumption | with_reducible refine Ext.pAlloc ?_ _ | ((with_reducible refine Ext.pSet ?_ ?_ _); rotate_left; (simp <;> omega)) | with_reducible refine Ext.pDrew ?_ | with_reducible refine Ext.pDrewN ?_ _ | with_reducible refine Ext.trans ?_ (by with_reducible assumption))⟩
  · cases hs : decide (l = m)
    all_goals
      go_enter Try.func21, Try.ntmps21
      go_wp2_with fail
      refine (msgsEqual_c _ _ ms ms' _ (msgsC.vext HU.out.1 (by repeat (first | with_reducible exact Ext.refl _ | with_reducible assumption | with_reducible refine Ext.pAlloc ?_ _ | ((with_reducible refine Ext.pSet ?_ ?_ _); rotate_left; (simp <;> omega)) | with_reducible refine Ext.pDrew ?_ | with_reducible refine Ext.pDrewN ?_ _ | with_reducible refine Ext.trans ?_ (by with_reducible assumption)))) (msgsC.vext HU.out.2 (by repeat (first | with_reducible exact Ext.refl _ | with_reducible assumption | with_reducible refine Ext.pAlloc ?_ _ | ((with_reducible refine Ext.pSet ?_ ?_ _); rotate_left; (simp <;> omega)) | with_reducible refine Ext.pDrew ?_ | with_reducible refine Ext.pDrewN ?_ _ | with_reducible refine Ext.trans ?_ (by with_reducible assumption))))).mono ?_
      rw [hr]
      rintro e w1 ⟨rfl, hE⟩
      have c1 : w1.cell? ⟨w.heap.size, 1, none⟩ = some (.slice a l.length cap) := cell_ext (by simp [go_sem]) hE
      have c2 : w1.cell? ⟨w.heap.size + 1, 1, none⟩ = some (.slice a' m.length cap') := cell_ext (by simp [go_sem]) hE
      go_wp2_with fail
      refine (linksEqual_c _ _ l m _ (linksC.vext HV.out.1 (by repeat (first | with_reducible exact Ext.refl _ | with_reducible assumption | with_reducible refine Ext.pAlloc ?_ _ | ((with_reducible refine Ext.pSet ?_ ?_ _); rotate_left; (simp <;> omega)) | with_reducible refine Ext.pDrew ?_ | with_reducible refine Ext.pDrewN ?_ _ | with_reducible refine Ext.trans ?_ (by with_reducible assumption)))) (linksC.vext HV.out.2 (by repeat (first | with_reducible exact Ext.refl _ | with_reducible assumption | with_reducible refine Ext.pAlloc ?_ _ | ((with_reducible refine Ext.pSet ?_ ?_ _); rotate_left; (simp <;> omega)) | with_reducible refine Ext.pDrew ?_ | with_reducible refine Ext.pDrewN ?_ _ | with_reducible refine Ext.trans ?_ (by with_reducible assumption))))).mono ?_
      rw [hs]
      rintro e w2 ⟨rfl, hE2⟩
      go_wp2
      go_ret
      exact ⟨retB (by have h1 := of_decide_eq_true hr; first | (have h2 := of_decide_eq_true hs; simp [h1, h2]) | (have h2 := of_decide_eq_false hs; simp [h2])), by repeat (first | with_reducible exact Ext.refl _ | with_reducible assumption | with_reducible refine Ext.pAlloc ?_ _ | ((with_reducible refine Ext.pSet ?_ ?_ _); rotate_left; (simp <;> omega)) | with_reducible refine Ext.pDrew ?_ | with_reducible refine Ext.pDrewN ?_ _ | with_reducible refine Ext.trans ?_ (by with_reducible assumption))⟩

set_option maxHeartbeats 1600000 in
set_option maxRecDepth 20000 in
theorem specSameNet_c (cs ds : List Value) (d1 d2 : NetD) (w : World) (h : netC.V w cs d1) (h' : netC.V w ds d2) :
    Calls Try.prog 20 #[.agg cs.toArray, .agg ds.toArray] w fun e w' => e = .returned (.bool (decide (d1 = d2))) ∧ Ext w w' := by
  obtain ⟨u1, v1, rfl, hu1, hv1⟩ := net_V.1 h
  obtain ⟨u2, v2, rfl, hu2, hv2⟩ := net_V.1 h'
  obtain ⟨ms, l⟩ := d1
  obtain ⟨ms', m⟩ := d2
  simp only at hu1 hv1 hu2 hv2
  have HU := Lib.hid (And.intro hu1 hu2)
  have HV := Lib.hid (And.intro hv1 hv2)
  obtain ⟨ua, uc, rfl⟩ := sl_form hu1
  obtain ⟨ua', uc', rfl⟩ := sl_form hu2
  obtain ⟨a, cap, rfl, h1, h2, hc⟩ := slice_open (R := linkC) (by decide) hv1
  obtain ⟨a', cap', rfl, h1', h2', hc'⟩ := slice_open (R := linkC) (by decide) hv2
  clear h h' hu1 hu2 hv1 hv2
  have HGD := Lib.hid link_guard
  cases hr : decide (ms = ms')
  · clear hc hc'
    go_enter Try.func20, Try.ntmps20
    go_wp2_with fail
    refine (l5SameMsgs_c _ _ ms ms' _ (msgsC.vext HU.out.1 (by repeat (first | with_reducible exact Ext.refl _ | with_reducible assumption | with_reducible refine Ext.pAlloc ?_ _ | ((with_reducible refine Ext.pSet ?_ ?_ _); rotate_left; (simp <;> omega)) | with_reducible refine Ext.pDrew ?_ | with_reducible refine Ext.pDrewN ?_ _ | with_reducible refine Ext.trans ?_ (by with_reducible assumption)))) (msgsC.vext HU.out.2 (by repeat (first | with_reducible exact Ext.refl _ | with_reducible assumption | with_reducible refine Ext.pAlloc ?_ _ | ((with_reducible refine Ext.pSet ?_ ?_ _); rotate_left; (simp <;> omega)) | with_reducible refine Ext.pDrew ?_ | with_reducible refine Ext.pDrewN ?_ _ | with_reducible refine Ext.trans ?_ (by with_reducible assumption))))).mono ?_
    rw [hr]
    rintro e w1 ⟨rfl, hE⟩
    go_wp2
    go_ret
    exact ⟨retB (by symm; rw [decide_eq_false_iff_not]; intro e; exact of_decide_eq_false hr (Prod.mk.inj e).1), by repeat (first | with_reducible exact Ext.refl _ | with_reducible assumption | with_reducible refine Ext.pAlloc ?_ _ | ((with_reducible refine Ext.pSet ?_ ?_ _); rotate_left; (simp <;> omega)) | with_reducible refine Ext.pDrew ?_ | with_reducible refine Ext.pDrewN ?_ _ | with_reducible refine Ext.trans ?_ (by with_reducible assumption))⟩
  · have hms := of_decide_eq_true hr
    have Hms := Lib.hid hms; clear hms
    have Hr := Lib.hid hr; clear hr
    by_cases hl : l.length = m.length
    · have hl' : ((l.length : Int) != (m.length : Int)) = false := by rw [bne_eq_false_iff_eq]; omega
      have Hl := Lib.hid hl; clear hl
      go_enter Try.func20, Try.ntmps20
      go_wp2_with fail
      refine (l5SameMsgs_c _ _ ms ms' _ (msgsC.vext HU.out.1 (by repeat (first | with_reducible exact Ext.refl _ | with_reducible assumption | with_reducible refine Ext.pAlloc ?_ _ | ((with_reducible refine Ext.pSet ?_ ?_ _); rotate_left; (simp <;> omega)) | with_reducible refine Ext.pDrew ?_ | with_reducible refine Ext.pDrewN ?_ _ | with_reducible refine Ext.trans ?_ (by with_reducible assumption)))) (msgsC.vext HU.out.2 (by repeat (first | with_reducible exact Ext.refl _ | with_reducible assumption | with_reducible refine Ext.pAlloc ?_ _ | ((with_reducible refine Ext.pSet ?_ ?_ _); rotate_left; (simp <;> omega)) | with_reducible refine Ext.pDrew ?_ | with_reducible refine Ext.pDrewN ?_ _ | with_reducible refine Ext.trans ?_ (by with_reducible assumption))))).mono ?_
      rw [Hr.out]
      rintro e w1 ⟨rfl, hE0⟩
      have hB1 : Bx w1 w.heap.size [.slice ua ms.length uc, .slice a l.length cap] := Bx.ext (by repeat (first | with_reducible assumption | with_reducible exact Bx.new _ _ _ _ rfl | ((with_reducible refine Bx.new _ _ _ _ ?_); simp; done) | with_reducible refine Bx.pAlloc ?_ _ | with_reducible refine Bx.pDrew ?_ | with_reducible refine Bx.pDrewN ?_ _ | with_reducible apply Bx.set10 | with_reducible apply Bx.set20 | with_reducible apply Bx.set21 | with_reducible apply Bx.set30 | with_reducible apply Bx.set31 | with_reducible apply Bx.set32 | with_reducible apply Bx.set40 | with_reducible apply Bx.set41 | with_reducible apply Bx.set42 | with_reducible apply Bx.set43 | ((with_reducible refine Bx.set_other ?_ ?_ _); rotate_left; (simp <;> omega)))) hE0
      have hB2 : Bx w1 (w.heap.size + 1) [.slice ua' ms'.length uc', .slice a' m.length cap'] := Bx.ext (by repeat (first | with_reducible assumption | with_reducible exact Bx.new _ _ _ _ rfl | ((with_reducible refine Bx.new _ _ _ _ ?_); simp; done) | with_reducible refine Bx.pAlloc ?_ _ | with_reducible refine Bx.pDrew ?_ | with_reducible refine Bx.pDrewN ?_ _ | with_reducible apply Bx.set10 | with_reducible apply Bx.set20 | with_reducible apply Bx.set21 | with_reducible apply Bx.set30 | with_reducible apply Bx.set31 | with_reducible apply Bx.set32 | with_reducible apply Bx.set40 | with_reducible apply Bx.set41 | with_reducible apply Bx.set42 | with_reducible apply Bx.set43 | ((with_reducible refine Bx.set_other ?_ ?_ _); rotate_left; (simp <;> omega)))) hE0
      have hX0 : Ext w w1 := Ext.trans (by repeat (first | with_reducible exact Ext.refl _ | with_reducible assumption | with_reducible refine Ext.pAlloc ?_ _ | ((with_reducible refine Ext.pSet ?_ ?_ _); rotate_left; (simp <;> omega)) | with_reducible refine Ext.pDrew ?_ | with_reducible refine Ext.pDrewN ?_ _ | with_reducible refine Ext.trans ?_ (by with_reducible assumption))) hE0
      clear hE0
      have c11 := hB1.cell 1 _ rfl
      have c21 := hB2.cell 1 _ rfl
      go_wp2
      clear c11 c21
      go_loopw [5] (fun i wr => ∃ k : Nat, k ≤ l.length ∧ i = .int .i64 k ∧ Hid (l.take k = m.take k) ∧ Ext w wr ∧ Bx wr w.heap.size [.slice ua ms.length uc, .slice a l.length cap] ∧ Bx wr (w.heap.size + 1) [.slice ua' ms'.length uc', .slice a' m.length cap']) (fun i _ => l.length - (intOf i).toNat)
      case atStart => exact ⟨0, Nat.zero_le _, rfl, rfl, hX0, hB1, hB2⟩
      case round =>
        clear hX0 hB1 hB2
        obtain ⟨k, hk, rfl, hp, hE, hB1, hB2⟩ := hrel
        have c11 := hB1.cell 1 _ rfl
        have c21 := hB2.cell 1 _ rfl
        by_cases hlt : k < l.length
        · obtain ⟨b, off, x, c, rfl, hx, hv, hcell⟩ := hc k hlt
          obtain ⟨b', off', y, c', rfl, hy, hv', hcell'⟩ := hc' k (by rw [← Hl.out]; exact hlt)
          clear hc hc'
          obtain rfl := link_V.1 hv
          obtain rfl := link_V.1 hv'
          clear hv hv'
          obtain ⟨f, t⟩ := x
          obtain ⟨g, r⟩ := y
          have hc0 : wr.cell? ⟨b, off + k * 2, none⟩ = some (.int .i64 f) := cell_ext (hcell 0 _ rfl) hE
          have hc1 : wr.cell? ⟨b, off + k * 2 + 1, none⟩ = some (.int .i64 t) := cell_ext (hcell 1 _ rfl) hE
          have hd0 : wr.cell? ⟨b', off' + k * 2, none⟩ = some (.int .i64 g) := cell_ext (hcell' 0 _ rfl) hE
          have hd1 : wr.cell? ⟨b', off' + k * 2 + 1, none⟩ = some (.int .i64 r) := cell_ext (hcell' 1 _ rfl) hE
          clear hcell hcell'
          have hi1 : (0 : Int) ≤ k := by omega
          have hi2 : (k : Int) < l.length := by omega
          have hi3 : (k : Int) < m.length := by have := Hl.out; omega
          have hgd := HGD.out
          by_cases hxy : (f, t) = (g, r)
          · have heq := link_neq_is (a := f) (b := t) (c := g) (d := r) (r := true) (by simp [hxy])
            have Hxy := Lib.hid hxy; clear hxy
            go_wp2
            go_quiet (fail)
            go_wp2
            go_roundw
            case rel => exact ⟨k + 1, by omega, by go_num, Lib.hid (by rw [take_snoc hx, take_snoc hy, hp.out, Hxy.out]), by repeat (first | with_reducible exact Ext.refl _ | with_reducible assumption | with_reducible refine Ext.pAlloc ?_ _ | ((with_reducible refine Ext.pSet ?_ ?_ _); rotate_left; (simp <;> omega)) | with_reducible refine Ext.pDrew ?_ | with_reducible refine Ext.pDrewN ?_ _ | with_reducible refine Ext.trans ?_ (by with_reducible assumption)), by repeat (first | with_reducible assumption | with_reducible exact Bx.new _ _ _ _ rfl | ((with_reducible refine Bx.new _ _ _ _ ?_); simp; done) | with_reducible refine Bx.pAlloc ?_ _ | with_reducible refine Bx.pDrew ?_ | with_reducible refine Bx.pDrewN ?_ _ | with_reducible apply Bx.set10 | with_reducible apply Bx.set20 | with_reducible apply Bx.set21 | with_reducible apply Bx.set30 | with_reducible apply Bx.set31 | with_reducible apply Bx.set32 | with_reducible apply Bx.set40 | with_reducible apply Bx.set41 | with_reducible apply Bx.set42 | with_reducible apply Bx.set43 | ((with_reducible refine Bx.set_other ?_ ?_ _); rotate_left; (simp <;> omega))), by repeat (first | with_reducible assumption | with_reducible exact Bx.new _ _ _ _ rfl | ((with_reducible refine Bx.new _ _ _ _ ?_); simp; done) | with_reducible refine Bx.pAlloc ?_ _ | with_reducible refine Bx.pDrew ?_ | with_reducible refine Bx.pDrewN ?_ _ | with_reducible apply Bx.set10 | with_reducible apply Bx.set20 | with_reducible apply Bx.set21 | with_reducible apply Bx.set30 | with_reducible apply Bx.set31 | with_reducible apply Bx.set32 | with_reducible apply Bx.set40 | with_reducible apply Bx.set41 | with_reducible apply Bx.set42 | with_reducible apply Bx.set43 | ((with_reducible refine Bx.set_other ?_ ?_ _); rotate_left; (simp <;> omega)))⟩
            case measure => simp [intOf]; omega
          · have heq := link_neq_is (a := f) (b := t) (c := g) (d := r) (r := false) (by simpa using hxy)
            have Hxy := Lib.hid hxy; clear hxy
            go_wp2
            go_quiet (fail)
            go_wp2
            go_ret
            exact ⟨retB (by symm; rw [decide_eq_false_iff_not]; intro e; obtain ⟨-, rfl⟩ := Prod.mk.inj e; exact Hxy.out (Option.some.inj (hx.out.symm.trans hy.out))), by repeat (first | with_reducible exact Ext.refl _ | with_reducible assumption | with_reducible refine Ext.pAlloc ?_ _ | ((with_reducible refine Ext.pSet ?_ ?_ _); rotate_left; (simp <;> omega)) | with_reducible refine Ext.pDrew ?_ | with_reducible refine Ext.pDrewN ?_ _ | with_reducible refine Ext.trans ?_ (by with_reducible assumption))⟩
        · have he : k = l.length := by omega
          have He := Lib.hid he; clear he
          go_wp2
          go_ret
          exact ⟨retB (by symm; rw [decide_eq_true_iff]; rw [Hms.out, take_all hp.out He.out Hl.out]), hE⟩
    · have hl' : ((l.length : Int) != (m.length : Int)) = true := by rw [bne_iff_ne]; omega
      clear hc hc'
      go_enter Try.func20, Try.ntmps20
      go_wp2_with fail
      refine (l5SameMsgs_c _ _ ms ms' _ (msgsC.vext HU.out.1 (by repeat (first | with_reducible exact Ext.refl _ | with_reducible assumption | with_reducible refine Ext.pAlloc ?_ _ | ((with_reducible refine Ext.pSet ?_ ?_ _); rotate_left; (simp <;> omega)) | with_reducible refine Ext.pDrew ?_ | with_reducible refine Ext.pDrewN ?_ _ | with_reducible refine Ext.trans ?_ (by with_reducible assumption)))) (msgsC.vext HU.out.2 (by repeat (first | with_reducible exact Ext.refl _ | with_reducible assumption | with_reducible refine Ext.pAlloc ?_ _ | ((with_reducible refine Ext.pSet ?_ ?_ _); rotate_left; (simp <;> omega)) | with_reducible refine Ext.pDrew ?_ | with_reducible refine Ext.pDrewN ?_ _ | with_reducible refine Ext.trans ?_ (by with_reducible assumption))))).mono ?_
      rw [Hr.out]
      rintro e w1 ⟨rfl, hE0⟩
      have c11 : w1.cell? ⟨w.heap.size, 1, none⟩ = some (.slice a l.length cap) := cell_ext (by simp [go_sem]) hE0
      have c21 : w1.cell? ⟨w.heap.size + 1, 1, none⟩ = some (.slice a' m.length cap') := cell_ext (by simp [go_sem]) hE0
      go_wp2
      go_ret
      exact ⟨retB (by symm; rw [decide_eq_false_iff_not]; intro e; exact hl (by rw [(Prod.mk.inj e).2])), by repeat (first | with_reducible exact Ext.refl _ | with_reducible assumption | with_reducible refine Ext.pAlloc ?_ _ | ((with_reducible refine Ext.pSet ?_ ?_ _); rotate_left; (simp <;> omega)) | with_reducible refine Ext.pDrew ?_ | with_reducible refine Ext.pDrewN ?_ _ | with_reducible refine Ext.trans ?_ (by with_reducible assumption))⟩

/-- Of the first k letters: the places of those to a node. -/
def letK (ms : List MsgD) (node : Int) : Nat → List Int
  | 0 => []
  | k + 1 => if (ms.getD k (0, 0, [])).2.1 = node then letK ms node k ++ [(k : Int)] else letK ms node k
theorem letK_len (ms : List MsgD) (node : Int) (k : Nat) : (letK ms node k).length ≤ k := by
  induction k with
  | zero => exact Nat.le_refl _
  | succ k ih => unfold letK; split <;> (try simp) <;> omega
def lettersTo (d : NetD) (node : Int) : List Int := if netOk d = true then letK d.1 node d.1.length else []
theorem netOk_len {d : NetD} (h : netOk d = true) : d.1.length ≤ 60 ∧ d.2.length ≤ 15 := by
  unfold netOk at h
  simp only [Bool.and_eq_true, decide_eq_true_eq] at h
  exact ⟨h.1.1.1, h.1.1.2⟩
theorem lettersTo_len (d : NetD) (node : Int) : (lettersTo d node).length ≤ 60 := by
  unfold lettersTo
  split
  · rename_i h
    exact Nat.le_trans (letK_len _ _ _) (netOk_len h).1
  · simp
theorem letK_yes {ms : List MsgD} {node : Int} {k : Nat} {x : MsgD} (hx : Hid (ms[k]? = some x)) (h : x.2.1 = node) : letK ms node (k + 1) = letK ms node k ++ [(k : Int)] := by
  rw [letK, List.getD_eq_getElem?_getD, hx.out]; exact if_pos h
theorem letK_no {ms : List MsgD} {node : Int} {k : Nat} {x : MsgD} (hx : Hid (ms[k]? = some x)) (h : ¬ x.2.1 = node) : letK ms node (k + 1) = letK ms node k := by
  rw [letK, List.getD_eq_getElem?_getD, hx.out]; exact if_neg h

set_option maxHeartbeats 1600000 in
set_option maxRecDepth 20000 in
theorem specLettersTo_c (cs : List Value) (d : NetD) (node : Int) (w : World) (h : netC.V w cs d) :
    Calls Try.prog 24 #[.agg cs.toArray, .int .i64 node] w fun e w' => ∃ v', e = .returned v' ∧ Ext w w' ∧ rowC.own w.heap.size w'.heap.size w' [v'] (lettersTo d node) := by
  have HD := Lib.hid h
  obtain ⟨u, v, rfl, hu, hv⟩ := net_V.1 h
  obtain ⟨ms, ls⟩ := d
  obtain ⟨a, cap, rfl, h1, h2, hc⟩ := slice_open (R := msgC) (by decide) hu
  obtain ⟨va, vc, rfl⟩ := sl_form hv
  clear hu hv h
  simp only at h1 hc
  cases hn : netOk (ms, ls)
  · have hr : lettersTo (ms, ls) node = [] := by simp [lettersTo, hn]
    rw [hr]; have Hr := Lib.hid hr; clear hr
    have Hn := Lib.hid hn; clear hn hc
    go_enter Try.func24, Try.ntmps24
    go_wp2_with fail
    refine (specNetOk_c _ (ms, ls) _ (netC.vext HD.out (by repeat (first | with_reducible exact Ext.refl _ | with_reducible assumption | with_reducible refine Ext.pAlloc ?_ _ | ((with_reducible refine Ext.pSet ?_ ?_ _); rotate_left; (simp <;> omega)) | with_reducible refine Ext.pDrew ?_ | with_reducible refine Ext.pDrewN ?_ _ | with_reducible refine Ext.trans ?_ (by with_reducible assumption))))).mono ?_
    rw [Hn.out]
    rintro e w1 ⟨rfl, hE⟩
    go_wp2
    go_ret
    refine ⟨_, rfl, by repeat (first | with_reducible exact Ext.refl _ | with_reducible assumption | with_reducible refine Ext.pAlloc ?_ _ | ((with_reducible refine Ext.pSet ?_ ?_ _); rotate_left; (simp <;> omega)) | with_reducible refine Ext.pDrew ?_ | with_reducible refine Ext.pDrewN ?_ _ | with_reducible refine Ext.trans ?_ (by with_reducible assumption)), row_own.2 ⟨_, 0, rfl, Nat.le_refl _, by omega, ISl.ext (ISl.litAt _ _ _ (by simp)) hE, ?_⟩⟩
    have hz := hE.size
    simp at hz
    simp [ablk]
    omega
  · have hr : lettersTo (ms, ls) node = letK ms node ms.length := by unfold lettersTo; rw [if_pos hn]
    have hlen := (netOk_len hn).1
    simp only at hlen
    rw [hr]; have Hr := Lib.hid hr; clear hr
    have Hn := Lib.hid hn; clear hn
    go_enter Try.func24, Try.ntmps24
    go_wp2_with fail
    refine (specNetOk_c _ (ms, ls) _ (netC.vext HD.out (by repeat (first | with_reducible exact Ext.refl _ | with_reducible assumption | with_reducible refine Ext.pAlloc ?_ _ | ((with_reducible refine Ext.pSet ?_ ?_ _); rotate_left; (simp <;> omega)) | with_reducible refine Ext.pDrew ?_ | with_reducible refine Ext.pDrewN ?_ _ | with_reducible refine Ext.trans ?_ (by with_reducible assumption))))).mono ?_
    rw [Hn.out]
    rintro e w1 ⟨rfl, hE⟩
    have hB : Bx w1 w.heap.size [.slice a ms.length cap, .slice va ls.length vc] := Bx.ext (by repeat (first | with_reducible assumption | with_reducible exact Bx.new _ _ _ _ rfl | ((with_reducible refine Bx.new _ _ _ _ ?_); simp; done) | with_reducible refine Bx.pAlloc ?_ _ | with_reducible refine Bx.pDrew ?_ | with_reducible refine Bx.pDrewN ?_ _ | with_reducible apply Bx.set10 | with_reducible apply Bx.set20 | with_reducible apply Bx.set21 | with_reducible apply Bx.set30 | with_reducible apply Bx.set31 | with_reducible apply Bx.set32 | with_reducible apply Bx.set40 | with_reducible apply Bx.set41 | with_reducible apply Bx.set42 | with_reducible apply Bx.set43 | ((with_reducible refine Bx.set_other ?_ ?_ _); rotate_left; (simp <;> omega)))) hE
    have hz : w.heap.size + 2 ≤ w1.heap.size := by have := hE.size; simp at this; omega
    have hI0 : ISl w1 (some ⟨w.heap.size + 1, 0, none⟩) 0 [] := ISl.ext (ISl.litAt _ _ _ (by simp)) hE
    have hX : Ext w w1 := Ext.trans (by repeat (first | with_reducible exact Ext.refl _ | with_reducible assumption | with_reducible refine Ext.pAlloc ?_ _ | ((with_reducible refine Ext.pSet ?_ ?_ _); rotate_left; (simp <;> omega)) | with_reducible refine Ext.pDrew ?_ | with_reducible refine Ext.pDrewN ?_ _ | with_reducible refine Ext.trans ?_ (by with_reducible assumption))) hE
    clear hE
    have nb := hB.lt
    go_wp2
    have HX := Lib.hid hX; clear hX
    go_loopw [5, 6] (fun v5 i wr => ∃ (k : Nat) (oa : Option Addr) (oc : Nat), k ≤ ms.length ∧ i = .int .i64 k ∧ v5 = .slice oa (letK ms node k).length oc ∧ (letK ms node k).length ≤ oc ∧ oc ≤ 9223372036854775807 ∧ Hid (ISl wr oa oc (letK ms node k)) ∧ Hid (∀ b ∈ ablk oa, w.heap.size + 1 ≤ b) ∧ Hid (Ext w wr) ∧ w.heap.size + 1 < wr.heap.size ∧ Bx wr w.heap.size [.slice a ms.length cap, .slice va ls.length vc]) (fun _ i _ => ms.length - (intOf i).toNat)
    case atStart => exact ⟨0, _, 0, Nat.zero_le _, rfl, rfl, Nat.le_refl _, by omega, hI0, by simp [ablk, Hid], HX.out, by omega, hB⟩
    case round =>
      clear hI0 hB
      obtain ⟨k, oa, oc, hk, rfl, rfl, ho1, ho2, hI, hab, hE, hsz, hB⟩ := hrel
      have c0 := hB.cell 0 _ rfl
      have hlk := letK_len ms node k
      by_cases hlt : k < ms.length
      · obtain ⟨b, off, x, c, rfl, hx, hvx, hcell⟩ := hc k hlt
        clear hc
        obtain ⟨y, rfl, hvy⟩ := msg_V.1 hvx
        obtain ⟨ya, yc, rfl⟩ := u_slice hvy
        clear hvx hvy
        have hc0 : wr.cell? ⟨b, off + k * 3, none⟩ = some (.int .i64 x.1) := cell_ext (hcell 0 _ rfl) hE.out
        have hc1 : wr.cell? ⟨b, off + k * 3 + 1, none⟩ = some (.int .i64 x.2.1) := cell_ext (hcell 1 _ rfl) hE.out
        have hc2 : wr.cell? ⟨b, off + k * 3 + 2, none⟩ = some (.slice ya x.2.2.length yc) := cell_ext (hcell 2 _ rfl) hE.out
        clear hcell
        have hi1 : (0 : Int) ≤ k := by omega
        have hi2 : (k : Int) < ms.length := by omega
        by_cases ht : x.2.1 = node
        · have hs := letK_yes hx ht
          have htb : (x.2.1 == node) = true := by rw [beq_iff_eq]; exact ht
          have Hs := Lib.hid hs; clear hs ht
          generalize hL : letK ms node k = L at *
          clear hL
          go_wp2_with (at_builtin; go_loud (refine wpList_append_ints _ rfl _ _ _ rfl 2 Try.underlying38 Try.infoI _ _ _ L rfl rfl (hI.out.ext (Ext.alloc _ _)) ho1 ho2 _ _ _ [(k : Int)] rfl rfl (CellsAt.litAt _ _ _ _ (by simp)) (by omega) ?_))
          intro a2 cap2 w4 hI4 hle4 hm4 hA4
          have HI4 := Lib.hid hI4; clear hI4
          have hlt4 := fun b' (h' : b' ∈ ablk oa) => SlAt.lt hI.out b' h'
          have hC4 := hA4.chg (lo := w.heap.size + 1) (hi := wr.heap.size) (fun b' h' => ⟨hab.out b' h', hlt4 b' h'⟩)
          have hX4 : Ext w w4 := Chg.ext (hE.out.trans (by repeat (first | with_reducible exact Ext.refl _ | with_reducible assumption | with_reducible refine Ext.pAlloc ?_ _ | ((with_reducible refine Ext.pSet ?_ ?_ _); rotate_left; (simp <;> omega)) | with_reducible refine Ext.pDrew ?_ | with_reducible refine Ext.pDrewN ?_ _ | with_reducible refine Ext.trans ?_ (by with_reducible assumption)))) hC4 (by omega)
          have hz4 := hC4.size
          have hB4 : Bx w4 w.heap.size [.slice (some ⟨b, off, none⟩) ms.length cap, .slice va ls.length vc] := Bx.chg (by repeat (first | with_reducible assumption | with_reducible exact Bx.new _ _ _ _ rfl | ((with_reducible refine Bx.new _ _ _ _ ?_); simp; done) | with_reducible refine Bx.pAlloc ?_ _ | with_reducible refine Bx.pDrew ?_ | with_reducible refine Bx.pDrewN ?_ _ | with_reducible apply Bx.set10 | with_reducible apply Bx.set20 | with_reducible apply Bx.set21 | with_reducible apply Bx.set30 | with_reducible apply Bx.set31 | with_reducible apply Bx.set32 | with_reducible apply Bx.set40 | with_reducible apply Bx.set41 | with_reducible apply Bx.set42 | with_reducible apply Bx.set43 | ((with_reducible refine Bx.set_other ?_ ?_ _); rotate_left; (simp <;> omega)))) hC4 (by omega)
          have hab4 : ∀ b' ∈ ablk a2, w.heap.size + 1 ≤ b' := fun b' h' => by
            rcases hA4.mem h' with h' | ⟨h', _⟩
            · exact hab.out b' h'
            · rw [h']; simp <;> omega
          clear hA4 hC4 hlt4
          go_wp2
          go_roundw
          case rel => exact ⟨k + 1, a2, cap2, by omega, by go_num, by rw [Hs.out]; simp, by rw [Hs.out]; simpa using hle4, hm4, by rw [Hs.out]; exact HI4.out, hab4, hX4, by simp at hz4; omega, hB4⟩
          case measure => simp [intOf]; omega
        · have hs := letK_no hx ht
          have htb : (x.2.1 == node) = false := by rw [beq_eq_false_iff_ne]; exact ht
          have Hs := Lib.hid hs; clear hs ht
          generalize hL : letK ms node k = L at *
          clear hL
          go_wp2
          go_roundw
          case rel => exact ⟨k + 1, oa, oc, by omega, by go_num, by rw [Hs.out], by rw [Hs.out]; exact ho1, ho2, by rw [Hs.out]; exact hI.out.ext (by repeat (first | with_reducible exact Ext.refl _ | with_reducible assumption | with_reducible refine Ext.pAlloc ?_ _ | ((with_reducible refine Ext.pSet ?_ ?_ _); rotate_left; (simp <;> omega)) | with_reducible refine Ext.pDrew ?_ | with_reducible refine Ext.pDrewN ?_ _ | with_reducible refine Ext.trans ?_ (by with_reducible assumption))), hab, hE.out.trans (by repeat (first | with_reducible exact Ext.refl _ | with_reducible assumption | with_reducible refine Ext.pAlloc ?_ _ | ((with_reducible refine Ext.pSet ?_ ?_ _); rotate_left; (simp <;> omega)) | with_reducible refine Ext.pDrew ?_ | with_reducible refine Ext.pDrewN ?_ _ | with_reducible refine Ext.trans ?_ (by with_reducible assumption))), by (try simp); omega, by repeat (first | with_reducible assumption | with_reducible exact Bx.new _ _ _ _ rfl | ((with_reducible refine Bx.new _ _ _ _ ?_); simp; done) | with_reducible refine Bx.pAlloc ?_ _ | with_reducible refine Bx.pDrew ?_ | with_reducible refine Bx.pDrewN ?_ _ | with_reducible apply Bx.set10 | with_reducible apply Bx.set20 | with_reducible apply Bx.set21 | with_reducible apply Bx.set30 | with_reducible apply Bx.set31 | with_reducible apply Bx.set32 | with_reducible apply Bx.set40 | with_reducible apply Bx.set41 | with_reducible apply Bx.set42 | with_reducible apply Bx.set43 | ((with_reducible refine Bx.set_other ?_ ?_ _); rotate_left; (simp <;> omega)))⟩
          case measure => simp [intOf]; omega
      · have he : k = ms.length := by omega
        subst he
        go_wp2
        go_ret
        exact ⟨_, rfl, hE.out, row_own.2 ⟨oa, oc, rfl, ho1, ho2, hI.out, fun b' h' => ⟨by have := hab.out b' h'; omega, SlAt.lt hI.out b' h'⟩⟩⟩

set_option maxHeartbeats 1600000 in
set_option maxRecDepth 20000 in
theorem implLettersTo_c (cs : List Value) (d : NetD) (node : Int) (w : World) (h : netC.V w cs d) :
    Calls Try.prog 25 #[.agg cs.toArray, .int .i64 node] w fun e w' => ∃ v', e = .returned v' ∧ Ext w w' ∧ rowC.own w.heap.size w'.heap.size w' [v'] (lettersTo d node) := by
  have HD := Lib.hid h
  obtain ⟨u, v, rfl, hu, hv⟩ := net_V.1 h
  obtain ⟨ms, ls⟩ := d
  obtain ⟨a, cap, rfl, h1, h2, hc⟩ := slice_open (R := msgC) (by decide) hu
  obtain ⟨va, vc, rfl⟩ := sl_form hv
  clear hu hv h
  simp only at h1 hc
  cases hn : netOk (ms, ls)
  · have hr : lettersTo (ms, ls) node = [] := by simp [lettersTo, hn]
    rw [hr]; have Hr := Lib.hid hr; clear hr
    have Hn := Lib.hid hn; clear hn hc
    go_enter Try.func25, Try.ntmps25
    go_wp2_with fail
    refine (implNetOk_c _ (ms, ls) _ (netC.vext HD.out (by repeat (first | with_reducible exact Ext.refl _ | with_reducible assumption | with_reducible refine Ext.pAlloc ?_ _ | ((with_reducible refine Ext.pSet ?_ ?_ _); rotate_left; (simp <;> omega)) | with_reducible refine Ext.pDrew ?_ | with_reducible refine Ext.pDrewN ?_ _ | with_reducible refine Ext.trans ?_ (by with_reducible assumption))))).mono ?_
    rw [Hn.out]
    rintro e w1 ⟨rfl, hE⟩
    go_wp2
    go_ret
    exact ⟨_, rfl, by repeat (first | with_reducible exact Ext.refl _ | with_reducible assumption | with_reducible refine Ext.pAlloc ?_ _ | ((with_reducible refine Ext.pSet ?_ ?_ _); rotate_left; (simp <;> omega)) | with_reducible refine Ext.pDrew ?_ | with_reducible refine Ext.pDrewN ?_ _ | with_reducible refine Ext.trans ?_ (by with_reducible assumption)), row_nil _ _ _⟩
  · have hr : lettersTo (ms, ls) node = letK ms node ms.length := by unfold lettersTo; rw [if_pos hn]
    have hlen := (netOk_len hn).1
    simp only at hlen
    rw [hr]; have Hr := Lib.hid hr; clear hr
    have Hn := Lib.hid hn; clear hn
    go_enter Try.func25, Try.ntmps25
    go_wp2_with fail
    refine (implNetOk_c _ (ms, ls) _ (netC.vext HD.out (by repeat (first | with_reducible exact Ext.refl _ | with_reducible assumption | with_reducible refine Ext.pAlloc ?_ _ | ((with_reducible refine Ext.pSet ?_ ?_ _); rotate_left; (simp <;> omega)) | with_reducible refine Ext.pDrew ?_ | with_reducible refine Ext.pDrewN ?_ _ | with_reducible refine Ext.trans ?_ (by with_reducible assumption))))).mono ?_
    rw [Hn.out]
    rintro e w1 ⟨rfl, hE⟩
    have hB : Bx w1 w.heap.size [.slice a ms.length cap, .slice va ls.length vc] := Bx.ext (by repeat (first | with_reducible assumption | with_reducible exact Bx.new _ _ _ _ rfl | ((with_reducible refine Bx.new _ _ _ _ ?_); simp; done) | with_reducible refine Bx.pAlloc ?_ _ | with_reducible refine Bx.pDrew ?_ | with_reducible refine Bx.pDrewN ?_ _ | with_reducible apply Bx.set10 | with_reducible apply Bx.set20 | with_reducible apply Bx.set21 | with_reducible apply Bx.set30 | with_reducible apply Bx.set31 | with_reducible apply Bx.set32 | with_reducible apply Bx.set40 | with_reducible apply Bx.set41 | with_reducible apply Bx.set42 | with_reducible apply Bx.set43 | ((with_reducible refine Bx.set_other ?_ ?_ _); rotate_left; (simp <;> omega)))) hE
    have hz : w.heap.size + 1 ≤ w1.heap.size := by have := hE.size; simp at this; omega
    have hX : Ext w w1 := Ext.trans (by repeat (first | with_reducible exact Ext.refl _ | with_reducible assumption | with_reducible refine Ext.pAlloc ?_ _ | ((with_reducible refine Ext.pSet ?_ ?_ _); rotate_left; (simp <;> omega)) | with_reducible refine Ext.pDrew ?_ | with_reducible refine Ext.pDrewN ?_ _ | with_reducible refine Ext.trans ?_ (by with_reducible assumption))) hE
    clear hE
    have c0 := hB.cell 0 _ rfl
    have nb := hB.lt
    go_wp2
    have hI0 : ISl (w1.alloc (.cells #[] 2)) (some ⟨w1.heap.size, 0, none⟩) 0 [] := ISl.litAt _ _ _ rfl
    have hB2 : Bx (w1.alloc (.cells #[] 2)) w.heap.size [.slice a ms.length cap, .slice va ls.length vc] := by repeat (first | with_reducible assumption | with_reducible exact Bx.new _ _ _ _ rfl | ((with_reducible refine Bx.new _ _ _ _ ?_); simp; done) | with_reducible refine Bx.pAlloc ?_ _ | with_reducible refine Bx.pDrew ?_ | with_reducible refine Bx.pDrewN ?_ _ | with_reducible apply Bx.set10 | with_reducible apply Bx.set20 | with_reducible apply Bx.set21 | with_reducible apply Bx.set30 | with_reducible apply Bx.set31 | with_reducible apply Bx.set32 | with_reducible apply Bx.set40 | with_reducible apply Bx.set41 | with_reducible apply Bx.set42 | with_reducible apply Bx.set43 | ((with_reducible refine Bx.set_other ?_ ?_ _); rotate_left; (simp <;> omega)))
    have HX := Lib.hid hX; clear hX hB c0
    go_loopw [5, 6, 15] (fun v5 _ i wr => ∃ (k : Nat) (oa : Option Addr) (oc : Nat), k ≤ ms.length ∧ i = .int .i64 k ∧ v5 = .slice oa (letK ms node k).length oc ∧ (letK ms node k).length ≤ oc ∧ oc ≤ 9223372036854775807 ∧ Hid (ISl wr oa oc (letK ms node k)) ∧ Hid (∀ b ∈ ablk oa, w1.heap.size ≤ b) ∧ Hid (Ext w wr) ∧ w1.heap.size < wr.heap.size ∧ Bx wr w.heap.size [.slice a ms.length cap, .slice va ls.length vc]) (fun _ _ i _ => ms.length - (intOf i).toNat)
    case atStart => exact ⟨0, _, 0, Nat.zero_le _, rfl, rfl, Nat.le_refl _, by omega, hI0, by simp [ablk, Hid], HX.out.trans (Ext.alloc _ _), by simp, hB2⟩
    case round =>
      clear hI0 hB2
      obtain ⟨k, oa, oc, hk, rfl, rfl, ho1, ho2, hI, hab, hE, hsz, hB⟩ := hrel
      have c0 := hB.cell 0 _ rfl
      have hlk := letK_len ms node k
      by_cases hlt : k < ms.length
      · obtain ⟨b, off, x, c, rfl, hx, hvx, hcell⟩ := hc k hlt
        clear hc
        obtain ⟨y, rfl, hvy⟩ := msg_V.1 hvx
        obtain ⟨ya, yc, rfl⟩ := u_slice hvy
        clear hvx hvy
        have hc0 : wr.cell? ⟨b, off + k * 3, none⟩ = some (.int .i64 x.1) := cell_ext (hcell 0 _ rfl) hE.out
        have hc1 : wr.cell? ⟨b, off + k * 3 + 1, none⟩ = some (.int .i64 x.2.1) := cell_ext (hcell 1 _ rfl) hE.out
        have hc2 : wr.cell? ⟨b, off + k * 3 + 2, none⟩ = some (.slice ya x.2.2.length yc) := cell_ext (hcell 2 _ rfl) hE.out
        clear hcell
        have hi1 : (0 : Int) ≤ k := by omega
        have hi2 : (k : Int) < ms.length := by omega
        by_cases ht : x.2.1 = node
        · have hs := letK_yes hx ht
          have htb : (x.2.1 == node) = true := by rw [beq_iff_eq]; exact ht
          have Hs := Lib.hid hs; clear hs ht
          generalize hL : letK ms node k = L at *
          clear hL
          go_wp2_with (at_builtin; go_loud (refine wpList_append_ints _ rfl _ _ _ rfl 2 Try.underlying38 Try.infoI _ _ _ L rfl rfl (hI.out.ext ((Ext.alloc _ _).trans (Ext.alloc _ _))) ho1 ho2 _ _ _ [(k : Int)] rfl rfl (CellsAt.litAt _ _ _ _ (by simp)) (by omega) ?_))
          intro a2 cap2 w4 hI4 hle4 hm4 hA4
          have HI4 := Lib.hid hI4; clear hI4
          have hlt4 := fun b' (h' : b' ∈ ablk oa) => SlAt.lt hI.out b' h'
          have hC4 := hA4.chg (lo := w1.heap.size) (hi := wr.heap.size) (fun b' h' => ⟨hab.out b' h', hlt4 b' h'⟩)
          have hX4 : Ext w w4 := Chg.ext (hE.out.trans (by repeat (first | with_reducible exact Ext.refl _ | with_reducible assumption | with_reducible refine Ext.pAlloc ?_ _ | ((with_reducible refine Ext.pSet ?_ ?_ _); rotate_left; (simp <;> omega)) | with_reducible refine Ext.pDrew ?_ | with_reducible refine Ext.pDrewN ?_ _ | with_reducible refine Ext.trans ?_ (by with_reducible assumption)))) hC4 (by omega)
          have hz4 := hC4.size
          have hB4 : Bx w4 w.heap.size [.slice (some ⟨b, off, none⟩) ms.length cap, .slice va ls.length vc] := Bx.chg (by repeat (first | with_reducible assumption | with_reducible exact Bx.new _ _ _ _ rfl | ((with_reducible refine Bx.new _ _ _ _ ?_); simp; done) | with_reducible refine Bx.pAlloc ?_ _ | with_reducible refine Bx.pDrew ?_ | with_reducible refine Bx.pDrewN ?_ _ | with_reducible apply Bx.set10 | with_reducible apply Bx.set20 | with_reducible apply Bx.set21 | with_reducible apply Bx.set30 | with_reducible apply Bx.set31 | with_reducible apply Bx.set32 | with_reducible apply Bx.set40 | with_reducible apply Bx.set41 | with_reducible apply Bx.set42 | with_reducible apply Bx.set43 | ((with_reducible refine Bx.set_other ?_ ?_ _); rotate_left; (simp <;> omega)))) hC4 (by omega)
          have hab4 : ∀ b' ∈ ablk a2, w1.heap.size ≤ b' := fun b' h' => by
            rcases hA4.mem h' with h' | ⟨h', _⟩
            · exact hab.out b' h'
            · rw [h']; simp <;> omega
          clear hA4 hC4 hlt4
          go_wp2
          go_roundw
          case rel => exact ⟨k + 1, a2, cap2, by omega, by go_num, by rw [Hs.out]; simp, by rw [Hs.out]; simpa using hle4, hm4, by rw [Hs.out]; exact HI4.out, hab4, hX4, by simp at hz4; omega, hB4⟩
          case measure => simp [intOf]; omega
        · have hs := letK_no hx ht
          have htb : (x.2.1 == node) = false := by rw [beq_eq_false_iff_ne]; exact ht
          have Hs := Lib.hid hs; clear hs ht
          generalize hL : letK ms node k = L at *
          clear hL
          go_wp2
          go_roundw
          case rel => exact ⟨k + 1, oa, oc, by omega, by go_num, by rw [Hs.out], by rw [Hs.out]; exact ho1, ho2, by rw [Hs.out]; exact hI.out.ext (by repeat (first | with_reducible exact Ext.refl _ | with_reducible assumption | with_reducible refine Ext.pAlloc ?_ _ | ((with_reducible refine Ext.pSet ?_ ?_ _); rotate_left; (simp <;> omega)) | with_reducible refine Ext.pDrew ?_ | with_reducible refine Ext.pDrewN ?_ _ | with_reducible refine Ext.trans ?_ (by with_reducible assumption))), hab, hE.out.trans (by repeat (first | with_reducible exact Ext.refl _ | with_reducible assumption | with_reducible refine Ext.pAlloc ?_ _ | ((with_reducible refine Ext.pSet ?_ ?_ _); rotate_left; (simp <;> omega)) | with_reducible refine Ext.pDrew ?_ | with_reducible refine Ext.pDrewN ?_ _ | with_reducible refine Ext.trans ?_ (by with_reducible assumption))), by (try simp); omega, by repeat (first | with_reducible assumption | with_reducible exact Bx.new _ _ _ _ rfl | ((with_reducible refine Bx.new _ _ _ _ ?_); simp; done) | with_reducible refine Bx.pAlloc ?_ _ | with_reducible refine Bx.pDrew ?_ | with_reducible refine Bx.pDrewN ?_ _ | with_reducible apply Bx.set10 | with_reducible apply Bx.set20 | with_reducible apply Bx.set21 | with_reducible apply Bx.set30 | with_reducible apply Bx.set31 | with_reducible apply Bx.set32 | with_reducible apply Bx.set40 | with_reducible apply Bx.set41 | with_reducible apply Bx.set42 | with_reducible apply Bx.set43 | ((with_reducible refine Bx.set_other ?_ ?_ _); rotate_left; (simp <;> omega)))⟩
          case measure => simp [intOf]; omega
      · have he : k = ms.length := by omega
        subst he
        go_wp2
        go_ret
        exact ⟨_, rfl, hE.out, row_own.2 ⟨oa, oc, rfl, ho1, ho2, hI.out, fun b' h' => ⟨by have := hab.out b' h'; omega, SlAt.lt hI.out b' h'⟩⟩⟩

end Go.Proofs.Ytkigfmkdbgcpeaa
