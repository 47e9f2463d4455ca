/- Disks: right, safe, read. -/
import Derived.Test.YtbapomhoipdanaaDk
import Derived.Deep.RegionHeld3
set_option linter.unusedVariables false
set_option linter.unusedSimpArgs false
namespace Go.Proofs.Ytbapomhoipdanaa
open Go.RowKit Go.Sl

def wOk (n : Nat) (x : WriteD) : Bool := inB x.1 0 ((n : Int) - 1) && rowOk x.2
def diskOk (d : DiskD) : Bool := decide (1 ≤ d.1.length) && decide (d.1.length ≤ 40) && decide (d.2.length ≤ 60) && d.1.all rowOk && d.2.all (wOk d.1.length)
theorem diskOk_size {rs : List (List Int)} {ws : List WriteD} (h : ¬ (1 ≤ rs.length ∧ rs.length ≤ 40 ∧ ws.length ≤ 60)) : diskOk (rs, ws) = false := by
  unfold diskOk
  by_cases h1 : 1 ≤ rs.length
  · by_cases h2 : rs.length ≤ 40
    · by_cases h3 : ws.length ≤ 60
      · exact absurd ⟨h1, h2, h3⟩ h
      · simp [h3]
    · simp [h2]
  · simp [h1]

set_option maxHeartbeats 400000 in
theorem sectorOk_c (cs : List Value) (d : DiskD) (at_ : Int) (w : World) (h : diskC.V w cs d) :
    Calls Try.prog 54 #[.agg cs.toArray, .int .i64 at_] w fun e w' => e = .returned (.bool (inB at_ 0 ((d.1.length : Int) - 1))) ∧ Ext w w' := by
  obtain ⟨u, v, rfl, hu, hv⟩ := disk_V.1 h
  obtain ⟨rs, ws⟩ := d
  obtain ⟨a, cap, rfl, h1, h2, _⟩ := slice_open1 (R := rowC) rfl hu
  clear hu hv h
  simp only at h1 ⊢
  go_enter Try.func54, Try.ntmps54
  go_wp2_with (go_at_call 80; refine (between_c _ _ _ _).mono ?_; rintro e w' ⟨rfl, rfl⟩)
  go_ret
  exact ⟨rfl, Ext.alloc _ _⟩

set_option maxHeartbeats 400000 in
theorem l3Has_c (cs : List Value) (d : DiskD) (at_ : Int) (w : World) (h : diskC.V w cs d) :
    Calls Try.prog 51 #[.agg cs.toArray, .int .i64 at_] w fun e w' => e = .returned (.bool (inB at_ 0 ((d.1.length : Int) - 1))) ∧ Ext w w' := by
  obtain ⟨u, v, rfl, hu, hv⟩ := disk_V.1 h
  obtain ⟨rs, ws⟩ := d
  obtain ⟨a, cap, rfl, h1, h2, _⟩ := slice_open1 (R := rowC) rfl hu
  clear hu hv h
  simp only at h1 ⊢
  go_enter Try.func51, Try.ntmps51
  go_wp2_with (go_at_call 87; refine (l1In_c _ _ _ _).mono ?_; rintro e w' ⟨rfl, rfl⟩)
  go_ret
  exact ⟨rfl, Ext.alloc _ _⟩

set_option maxHeartbeats 1600000 in
theorem implDiskOk_c (cs : List Value) (d : DiskD) (w : World) (h : diskC.V w cs d) :
    Calls Try.prog 77 #[.agg cs.toArray] w fun e w' => e = .returned (.bool (diskOk d)) ∧ Ext w w' := by
  have HD := Lib.hid h
  obtain ⟨u, v, rfl, hu, hv⟩ := disk_V.1 h
  obtain ⟨rs, ws⟩ := d
  obtain ⟨a, cap, rfl, h1, h2, hc⟩ := slice_open1 (R := rowC) rfl hu
  obtain ⟨a', cap', rfl, h1', h2', hc'⟩ := slice_open (R := writeC) (by decide) hv
  clear hu hv h
  simp only at h1 hc h1' hc'
  by_cases hl : 1 ≤ rs.length ∧ rs.length ≤ 40 ∧ ws.length ≤ 60
  · obtain ⟨l1, l2, l3⟩ := hl
    go_enter Try.func77, Try.ntmps77
    go_wp2
    go_loopw [4, 26] (fun _ i wr => ∃ k : Nat, k ≤ rs.length ∧ i = .int .i64 k ∧ Hid ((rs.take k).all rowOk = true) ∧ Hid (Ext w wr) ∧ w.heap.size < wr.heap.size ∧ wr.cell? ⟨w.heap.size, 0, none⟩ = some (.slice a rs.length cap) ∧ wr.cell? ⟨w.heap.size, 1, none⟩ = some (.slice a' ws.length cap')) (fun _ i _ => rs.length - (intOf i).toNat)
    case atStart => exact ⟨0, Nat.zero_le _, rfl, rfl, Ext.alloc _ _, by simp, by simp [go_sem], by simp [go_sem]⟩
    case round =>
      obtain ⟨k, hk, rfl, Hp, hE, hsz, hB0, hB1⟩ := hrel
      by_cases hlt : k < rs.length
      · obtain ⟨b, off, x, u, rfl, hx, hvx, hcell⟩ := hc k hlt
        clear hc hc'
        have HV := Lib.hid (rowC.vext hvx hE.out); clear hvx
        have hcw := cell_ext hcell hE.out
        clear hcell
        cases hin : rowOk x
        · have Hin := Lib.hid hin
          go_wp2_with (go_at_call 92; refine (implRowOk_c _ x _ HV.out).mono ?_; rw [Hin.out]; rintro e w' ⟨rfl, rfl⟩)
          go_ret
          exact ⟨retB (by simp only [diskOk, all_no (p := rowOk) hx Hin.out, Bool.and_false, Bool.false_and]), hE.out⟩
        · have Hin := Lib.hid hin
          go_wp2_with (go_at_call 92; refine (implRowOk_c _ x _ HV.out).mono ?_; rw [Hin.out]; rintro e w' ⟨rfl, rfl⟩)
          go_roundw
          case rel => exact ⟨k + 1, by omega, by go_num, all_take (p := rowOk) hx Hp.out Hin.out, hE, hsz, hB0, hB1⟩
          case measure => simp [intOf]; omega
      · have he : k = rs.length := by omega
        clear hc
        subst he
        have Hpp := Hp.out
        rw [List.take_length] at Hpp
        have HP := Lib.hid Hpp; clear Hpp Hp hlt hk
        go_wp2
        go_loopw [6, 37] (fun _ i wq => ∃ k : Nat, k ≤ ws.length ∧ i = .int .i64 k ∧ Hid ((ws.take k).all (wOk rs.length) = true) ∧ Hid (Ext w wq) ∧ w.heap.size < wq.heap.size ∧ wq.cell? ⟨w.heap.size, 0, none⟩ = some (.slice a rs.length cap) ∧ wq.cell? ⟨w.heap.size, 1, none⟩ = some (.slice a' ws.length cap')) (fun _ i _ => ws.length - (intOf i).toNat)
        case atStart => exact ⟨0, Nat.zero_le _, rfl, rfl, hE, hsz, hB0, hB1⟩
        case round =>
          clear hE hsz hB0 hB1
          obtain ⟨k, hk, rfl, Hp, hE, hsz, hB0, hB1⟩ := hrel
          by_cases hlt : k < ws.length
          · obtain ⟨b, off, x, c, rfl, hx, hvx, hcell⟩ := hc' k hlt
            clear hc'
            obtain ⟨y, rfl, hvy⟩ := write_V.1 hvx
            have HV := Lib.hid (rowC.vext hvy hE.out)
            obtain ⟨ya, yc, rfl⟩ := u_slice hvy
            clear hvx hvy
            have hc0 : wr.cell? ⟨b, off + k * 2, none⟩ = some (.int .i64 x.1) := cell_ext (hcell 0 _ rfl) hE.out
            have hc1 : wr.cell? ⟨b, off + k * 2 + 1, none⟩ = some (.slice ya x.2.length yc) := cell_ext (hcell 1 _ rfl) hE.out
            clear hcell
            cases hin : inB x.1 0 ((rs.length : Int) - 1)
            · have Hin := Lib.hid hin; clear hin
              have hE' := hE.out
              go_wp2_with fail
              refine (sectorOk_c _ (rs, ws) _ _ (diskC.vext HD.out (by repeat (first | with_reducible exact Ext.refl _ | with_reducible assumption | with_reducible refine Ext.pAlloc ?_ _ | ((with_reducible refine Ext.pSet ?_ ?_ _); rotate_left; (simp <;> omega)) | with_reducible refine Ext.pDrew ?_ | with_reducible refine Ext.pDrewN ?_ _ | with_reducible refine Ext.trans ?_ (by with_reducible assumption))))).mono ?_
              dsimp only
              rw [Hin.out]
              rintro e w1 ⟨rfl, hE1⟩
              have hd1 : w1.cell? ⟨wr.heap.size, 1, none⟩ = some (.slice ya x.2.length yc) := cell_ext (by simp [go_sem]) hE1
              have hX : Ext wr w1 := (Ext.pAlloc (Ext.refl _) _).trans hE1
              have hY := hE'.trans hX
              clear hE1 hX hE'
              go_wp2
              go_ret
              exact ⟨retB (by simp only [diskOk, all_no (p := wOk rs.length) hx (by simp [wOk, Hin.out]), Bool.and_false]), hY⟩
            · cases hrk : rowOk x.2
              · have Hin := Lib.hid hin; clear hin
                have Hrk := Lib.hid hrk; clear hrk
                have hE' := hE.out
                go_wp2_with fail
                refine (sectorOk_c _ (rs, ws) _ _ (diskC.vext HD.out (by repeat (first | with_reducible exact Ext.refl _ | with_reducible assumption | with_reducible refine Ext.pAlloc ?_ _ | ((with_reducible refine Ext.pSet ?_ ?_ _); rotate_left; (simp <;> omega)) | with_reducible refine Ext.pDrew ?_ | with_reducible refine Ext.pDrewN ?_ _ | with_reducible refine Ext.trans ?_ (by with_reducible assumption))))).mono ?_
                dsimp only
                rw [Hin.out]
                rintro e w1 ⟨rfl, hE1⟩
                have hd1 : w1.cell? ⟨wr.heap.size, 1, none⟩ = some (.slice ya x.2.length yc) := cell_ext (by simp [go_sem]) hE1
                have hX : Ext wr w1 := (Ext.pAlloc (Ext.refl _) _).trans hE1
                have hY := hE'.trans hX
                clear hE1 hE'
                go_wp2_with (go_at_call 92; refine (implRowOk_c _ x.2 _ (rowC.vext HV.out hX)).mono ?_; rw [Hrk.out]; rintro e w' ⟨rfl, rfl⟩)
                go_ret
                exact ⟨retB (by simp only [diskOk, all_no (p := wOk rs.length) hx (by simp [wOk, Hrk.out]), Bool.and_false]), hY⟩
              · have Hin := Lib.hid hin; clear hin
                have Hrk := Lib.hid hrk; clear hrk
                have hE' := hE.out
                go_wp2_with fail
                refine (sectorOk_c _ (rs, ws) _ _ (diskC.vext HD.out (by repeat (first | with_reducible exact Ext.refl _ | with_reducible assumption | with_reducible refine Ext.pAlloc ?_ _ | ((with_reducible refine Ext.pSet ?_ ?_ _); rotate_left; (simp <;> omega)) | with_reducible refine Ext.pDrew ?_ | with_reducible refine Ext.pDrewN ?_ _ | with_reducible refine Ext.trans ?_ (by with_reducible assumption))))).mono ?_
                dsimp only
                rw [Hin.out]
                rintro e w1 ⟨rfl, hE1⟩
                have hd1 : w1.cell? ⟨wr.heap.size, 1, none⟩ = some (.slice ya x.2.length yc) := cell_ext (by simp [go_sem]) hE1
                have hX : Ext wr w1 := (Ext.pAlloc (Ext.refl _) _).trans hE1
                have hY := hE'.trans hX
                have hC0 := cell_ext hB0 hX
                have hC1 := cell_ext hB1 hX
                have hsz' : w.heap.size < w1.heap.size := Nat.lt_of_lt_of_le hsz hX.size
                clear hE1 hE'
                go_wp2_with (go_at_call 92; refine (implRowOk_c _ x.2 _ (rowC.vext HV.out hX)).mono ?_; rw [Hrk.out]; rintro e w' ⟨rfl, rfl⟩)
                go_roundw
                case rel => exact ⟨k + 1, by omega, by go_num, all_take (p := wOk rs.length) hx Hp.out (by simp [wOk, Hin.out, Hrk.out]), hY, hsz', hC0, hC1⟩
                case measure => simp [intOf]; omega
          · have he : k = ws.length := by omega
            subst he
            have Hpp := Hp.out
            rw [List.take_length] at Hpp
            have HQ := Lib.hid Hpp; clear Hpp Hp
            go_wp2
            go_ret
            exact ⟨retB (by simp [diskOk, HP.out, HQ.out, l1, l2, l3]), hE.out⟩
  · have hs := diskOk_size hl
    rw [hs]
    have Hs := Lib.hid hs; clear hs HD
    by_cases l1 : 1 ≤ rs.length
    · by_cases l2 : rs.length ≤ 40
      · have l3 : ¬ ws.length ≤ 60 := fun l3 => hl ⟨l1, l2, l3⟩
        clear hl hc hc'
        go_enter Try.func77, Try.ntmps77
        go_wp2
        go_ret
        exact ⟨rfl, Ext.alloc _ _⟩
      · clear hl hc hc'
        go_enter Try.func77, Try.ntmps77
        go_wp2
        go_ret
        exact ⟨rfl, Ext.alloc _ _⟩
    · clear hl hc hc'
      go_enter Try.func77, Try.ntmps77
      go_wp2
      go_ret
      exact ⟨rfl, Ext.alloc _ _⟩

set_option maxHeartbeats 1600000 in
theorem specDiskOk_c (cs : List Value) (d : DiskD) (w : World) (h : diskC.V w cs d) :
    Calls Try.prog 76 #[.agg cs.toArray] w fun e w' => e = .returned (.bool (diskOk d)) ∧ Ext w w' := by
  have HD := Lib.hid h
  obtain ⟨u, v, rfl, hu, hv⟩ := disk_V.1 h
  obtain ⟨rs, ws⟩ := d
  obtain ⟨a, cap, rfl, h1, h2, hc⟩ := slice_open1 (R := rowC) rfl hu
  obtain ⟨a', cap', rfl, h1', h2', hc'⟩ := slice_open (R := writeC) (by decide) hv
  clear hu hv h
  simp only at h1 hc h1' hc'
  by_cases hl : 1 ≤ rs.length ∧ rs.length ≤ 40 ∧ ws.length ≤ 60
  · obtain ⟨l1, l2, l3⟩ := hl
    go_enter Try.func76, Try.ntmps76
    go_wp2
    go_loopw [3] (fun i wr => ∃ k : Nat, k ≤ rs.length ∧ i = .int .i64 k ∧ Hid ((rs.take k).all rowOk = true) ∧ Hid (Ext w wr) ∧ w.heap.size < wr.heap.size ∧ wr.cell? ⟨w.heap.size, 0, none⟩ = some (.slice a rs.length cap) ∧ wr.cell? ⟨w.heap.size, 1, none⟩ = some (.slice a' ws.length cap')) (fun i _ => rs.length - (intOf i).toNat)
    case atStart => exact ⟨0, Nat.zero_le _, rfl, rfl, Ext.alloc _ _, by simp, by simp [go_sem], by simp [go_sem]⟩
    case round =>
      obtain ⟨k, hk, rfl, Hp, hE, hsz, hB0, hB1⟩ := hrel
      by_cases hlt : k < rs.length
      · obtain ⟨b, off, x, u, rfl, hx, hvx, hcell⟩ := hc k hlt
        clear hc hc'
        have HV := Lib.hid (rowC.vext hvx hE.out); clear hvx
        have hcw := cell_ext hcell hE.out
        clear hcell
        have hi1 : (0 : Int) ≤ k := by omega
        have hi2 : (k : Int) < rs.length := by omega
        cases hin : rowOk x
        · have Hin := Lib.hid hin
          go_wp2_with (go_at_call 89; refine (specRowOk_c _ x _ HV.out).mono ?_; rw [Hin.out]; rintro e w' ⟨rfl, rfl⟩)
          go_ret
          exact ⟨retB (by simp only [diskOk, all_no (p := rowOk) hx Hin.out, Bool.and_false, Bool.false_and]), hE.out⟩
        · have Hin := Lib.hid hin
          go_wp2_with (go_at_call 89; refine (specRowOk_c _ x _ HV.out).mono ?_; rw [Hin.out]; rintro e w' ⟨rfl, rfl⟩)
          go_roundw
          case rel => exact ⟨k + 1, by omega, by go_num, all_take (p := rowOk) hx Hp.out Hin.out, hE, hsz, hB0, hB1⟩
          case measure => simp [intOf]; omega
      · have he : k = rs.length := by omega
        clear hc
        subst he
        have Hpp := Hp.out
        rw [List.take_length] at Hpp
        have HP := Lib.hid Hpp; clear Hpp Hp hlt hk
        go_wp2
        go_loopw [4] (fun i wq => ∃ k : Nat, k ≤ ws.length ∧ i = .int .i64 k ∧ Hid ((ws.take k).all (wOk rs.length) = true) ∧ Hid (Ext w wq) ∧ w.heap.size < wq.heap.size ∧ wq.cell? ⟨w.heap.size, 0, none⟩ = some (.slice a rs.length cap) ∧ wq.cell? ⟨w.heap.size, 1, none⟩ = some (.slice a' ws.length cap')) (fun i _ => ws.length - (intOf i).toNat)
        case atStart => exact ⟨0, Nat.zero_le _, rfl, rfl, hE, hsz, hB0, hB1⟩
        case round =>
          clear hE hsz hB0 hB1
          obtain ⟨k, hk, rfl, Hp, hE, hsz, hB0, hB1⟩ := hrel
          by_cases hlt : k < ws.length
          · obtain ⟨b, off, x, c, rfl, hx, hvx, hcell⟩ := hc' k hlt
            clear hc'
            obtain ⟨y, rfl, hvy⟩ := write_V.1 hvx
            have HV := Lib.hid (rowC.vext hvy hE.out)
            obtain ⟨ya, yc, rfl⟩ := u_slice hvy
            clear hvx hvy
            have hc0 : wr.cell? ⟨b, off + k * 2, none⟩ = some (.int .i64 x.1) := cell_ext (hcell 0 _ rfl) hE.out
            have hc1 : wr.cell? ⟨b, off + k * 2 + 1, none⟩ = some (.slice ya x.2.length yc) := cell_ext (hcell 1 _ rfl) hE.out
            clear hcell
            have hi1 : (0 : Int) ≤ k := by omega
            have hi2 : (k : Int) < ws.length := by omega
            have hE' := hE.out
            cases hin : inB x.1 0 ((rs.length : Int) - 1)
            · have Hin := Lib.hid hin; clear hin
              go_wp2
              refine wp_region_held_drew (S := (fun ω => ω.cell? ⟨w.heap.size, 0, none⟩ = some (.slice a rs.length cap) ∧ ω.cell? ⟨w.heap.size, 1, none⟩ = some (.slice (some ⟨b, off, none⟩) ws.length cap') ∧ ω.cell? ⟨b, off + k * 2, none⟩ = some (.int .i64 x.1) ∧ ω.cell? ⟨b, off + k * 2 + 1, none⟩ = some (.slice ya x.2.length yc) ∧ Ext wr ω)) (by kernel_rfl) ?_ (fun hHeld => ?_)
              · (try dsimp only); (refine ⟨cell_ext hB0 ?_, cell_ext hB1 ?_, cell_ext hc0 ?_, cell_ext hc1 ?_, ?_⟩ <;> (repeat (first | with_reducible exact Ext.refl _ | with_reducible assumption | with_reducible refine Ext.pAlloc ?_ _ | ((with_reducible refine Ext.pSet ?_ ?_ _); rotate_left; (simp <;> omega)) | with_reducible refine Ext.pDrew ?_ | with_reducible refine Ext.pDrewN ?_ _ | with_reducible refine Ext.trans ?_ (by with_reducible assumption))))
              refine wpAnyH_take (i := 0) (v := ?_) rfl (by kernel_rfl) (by kernel_rfl) (by kernel_rfl) (fun _ _ _ h => h) (Or.inl ⟨by rfl, ?_⟩) (by assumption) ?_
              rotate_left
              · intro w9 hSw; (try dsimp only at hSw); go_simp; (first | done | with_reducible rfl)
              (try simp only [List.getElem_toArray, List.getElem_cons_succ, List.getElem_cons_zero, Act.put, List.setIfInBounds_toArray, List.set_cons_zero, List.set_cons_succ])
              refine wpAnyH_take (i := 1) (v := ?_) rfl (by kernel_rfl) (by kernel_rfl) (by kernel_rfl) (fun _ _ _ h => h) (Or.inl ⟨by rfl, ?_⟩) (by assumption) ?_
              rotate_left
              · intro w9 hSw; (try dsimp only at hSw); go_simp; (first | done | with_reducible rfl)
              (try simp only [List.getElem_toArray, List.getElem_cons_succ, List.getElem_cons_zero, Act.put, List.setIfInBounds_toArray, List.set_cons_zero, List.set_cons_succ])
              refine wpAnyH_take (i := 2) (v := ?_) rfl (by kernel_rfl) (by kernel_rfl) (by kernel_rfl) (fun _ _ _ h => h) (Or.inl ⟨by rfl, ?_⟩) (by assumption) ?_
              rotate_left
              · intro w9 hSw; (try dsimp only at hSw); go_simp; (first | done | with_reducible rfl)
              (try simp only [List.getElem_toArray, List.getElem_cons_succ, List.getElem_cons_zero, Act.put, List.setIfInBounds_toArray, List.set_cons_zero, List.set_cons_succ])
              refine wpAnyH_take (i := 3) (v := ?_) rfl (by kernel_rfl) (by kernel_rfl) (by kernel_rfl) (fun _ _ _ h => h) (Or.inl ⟨by rfl, ?_⟩) (by assumption) ?_
              rotate_left
              · intro w9 hSw; (try dsimp only at hSw); go_simp; (first | done | with_reducible rfl)
              (try simp only [List.getElem_toArray, List.getElem_cons_succ, List.getElem_cons_zero, Act.put, List.setIfInBounds_toArray, List.set_cons_zero, List.set_cons_succ])
              refine wpAnyH_take (i := 4) (v := ?_) rfl (by kernel_rfl) (by kernel_rfl) (by kernel_rfl) (fun _ _ _ h => h) (Or.inl ⟨by rfl, ?_⟩) (by assumption) ?_
              rotate_left
              · intro w9 hSw; (try dsimp only at hSw); go_simp; (first | done | with_reducible rfl)
              (try simp only [List.getElem_toArray, List.getElem_cons_succ, List.getElem_cons_zero, Act.put, List.setIfInBounds_toArray, List.set_cons_zero, List.set_cons_succ])
              refine wpAnyH_take (i := 5) (v := ?_) rfl (by kernel_rfl) (by kernel_rfl) (by kernel_rfl) (fun _ _ _ h => h) (Or.inl ⟨by rfl, ?_⟩) (by assumption) ?_
              rotate_left
              · intro w9 hSw; (try dsimp only at hSw); go_simp; (first | done | with_reducible rfl)
              (try simp only [List.getElem_toArray, List.getElem_cons_succ, List.getElem_cons_zero, Act.put, List.setIfInBounds_toArray, List.set_cons_zero, List.set_cons_succ])
              refine wpAnyH_take (i := 6) (v := ?_) rfl (by kernel_rfl) (by kernel_rfl) (by kernel_rfl) (fun _ _ _ h => h) (Or.inl ⟨by rfl, ?_⟩) (by assumption) ?_
              rotate_left
              · intro w9 hSw; (try dsimp only at hSw); go_simp; (first | done | with_reducible rfl)
              (try simp only [List.getElem_toArray, List.getElem_cons_succ, List.getElem_cons_zero, Act.put, List.setIfInBounds_toArray, List.set_cons_zero, List.set_cons_succ])
              refine wpAnyH_ready (rs := [7]) (by kernel_rfl) (by simp) ?_
              refine AllReadyH.cons rfl (fun K hK => ?_) AllReadyH.nil
              go_simp
              (go_at_call 51; refine (l3Has_c _ (rs, ws) _ _ (diskC.vext HD.out (by repeat (first | with_reducible exact Ext.refl _ | with_reducible assumption | with_reducible refine Ext.pAlloc ?_ _ | ((with_reducible refine Ext.pSet ?_ ?_ _); rotate_left; (simp <;> omega)) | with_reducible refine Ext.pDrew ?_ | with_reducible refine Ext.pDrewN ?_ _ | with_reducible refine Ext.trans ?_ (by with_reducible assumption))))).mono ?_; dsimp only; rw [Hin.out]; rintro e w1 ⟨rfl, hE1⟩)
              (try go_wp2_with fail)
              refine hK.out _ _ ?_ (fun hHeld2 => ?_)
              · (try dsimp only); (refine ⟨cell_ext hB0 ?_, cell_ext hB1 ?_, cell_ext hc0 ?_, cell_ext hc1 ?_, ?_⟩ <;> (repeat (first | with_reducible exact Ext.refl _ | with_reducible assumption | with_reducible refine Ext.pAlloc ?_ _ | ((with_reducible refine Ext.pSet ?_ ?_ _); rotate_left; (simp <;> omega)) | with_reducible refine Ext.pDrew ?_ | with_reducible refine Ext.pDrewN ?_ _ | with_reducible refine Ext.trans ?_ (by with_reducible assumption))))
              clear hK K hHeld
              rename _ => hHeld
              (try simp only [List.getElem_toArray, List.getElem_cons_succ, List.getElem_cons_zero, Act.put, List.setIfInBounds_toArray, List.set_cons_zero, List.set_cons_succ])
              refine wpAnyH_take (i := 8) (v := ?_) rfl (by kernel_rfl) (by kernel_rfl) (by kernel_rfl) (fun _ _ _ h => h) (Or.inl ⟨by rfl, ?_⟩) (by assumption) ?_
              rotate_left
              · intro w9 hSw; (try dsimp only at hSw); go_simp; (first | done | with_reducible rfl)
              (try simp only [List.getElem_toArray, List.getElem_cons_succ, List.getElem_cons_zero, Act.put, List.setIfInBounds_toArray, List.set_cons_zero, List.set_cons_succ])
              refine wpAnyH_take (i := 9) (v := ?_) rfl (by kernel_rfl) (by kernel_rfl) (by kernel_rfl) (fun _ _ _ h => h) (Or.inl ⟨by rfl, ?_⟩) (by assumption) ?_
              rotate_left
              · intro w9 hSw; (try dsimp only at hSw); go_simp; (first | done | with_reducible rfl)
              (try simp only [List.getElem_toArray, List.getElem_cons_succ, List.getElem_cons_zero, Act.put, List.setIfInBounds_toArray, List.set_cons_zero, List.set_cons_succ])
              refine wpAnyH_take (i := 10) (v := undef) rfl (by kernel_rfl) (by kernel_rfl) (by kernel_rfl) (fun _ _ _ h => h) (Or.inr ⟨by rfl, rfl⟩) (by assumption) ?_
              (try simp only [List.getElem_toArray, List.getElem_cons_succ, List.getElem_cons_zero, Act.put, List.setIfInBounds_toArray, List.set_cons_zero, List.set_cons_succ])
              refine wpAnyH_take (i := 11) (v := undef) rfl (by kernel_rfl) (by kernel_rfl) (by kernel_rfl) (fun _ _ _ h => h) (Or.inr ⟨by rfl, rfl⟩) (by assumption) ?_
              (try simp only [List.getElem_toArray, List.getElem_cons_succ, List.getElem_cons_zero, Act.put, List.setIfInBounds_toArray, List.set_cons_zero, List.set_cons_succ])
              refine wpAnyH_take (i := 12) (v := undef) rfl (by kernel_rfl) (by kernel_rfl) (by kernel_rfl) (fun _ _ _ h => h) (Or.inr ⟨by rfl, rfl⟩) (by assumption) ?_
              (try simp only [List.getElem_toArray, List.getElem_cons_succ, List.getElem_cons_zero, Act.put, List.setIfInBounds_toArray, List.set_cons_zero, List.set_cons_succ])
              refine wpAnyH_take (i := 13) (v := undef) rfl (by kernel_rfl) (by kernel_rfl) (by kernel_rfl) (fun _ _ _ h => h) (Or.inr ⟨by rfl, rfl⟩) (by assumption) ?_
              (try simp only [List.getElem_toArray, List.getElem_cons_succ, List.getElem_cons_zero, Act.put, List.setIfInBounds_toArray, List.set_cons_zero, List.set_cons_succ])
              refine wpAnyH_take (i := 14) (v := undef) rfl (by kernel_rfl) (by kernel_rfl) (by kernel_rfl) (fun _ _ _ h => h) (Or.inr ⟨by rfl, rfl⟩) (by assumption) ?_
              (try simp only [List.getElem_toArray, List.getElem_cons_succ, List.getElem_cons_zero, Act.put, List.setIfInBounds_toArray, List.set_cons_zero, List.set_cons_succ])
              refine wpAnyH_take (i := 15) (v := undef) rfl (by kernel_rfl) (by kernel_rfl) (by kernel_rfl) (fun _ _ _ h => h) (Or.inr ⟨by rfl, rfl⟩) (by assumption) ?_
              (try simp only [List.getElem_toArray, List.getElem_cons_succ, List.getElem_cons_zero, Act.put, List.setIfInBounds_toArray, List.set_cons_zero, List.set_cons_succ])
              refine wpAnyH_take (i := 16) (v := undef) rfl (by kernel_rfl) (by kernel_rfl) (by kernel_rfl) (fun _ _ _ h => h) (Or.inr ⟨by rfl, rfl⟩) (by assumption) ?_
              (try simp only [List.getElem_toArray, List.getElem_cons_succ, List.getElem_cons_zero, Act.put, List.setIfInBounds_toArray, List.set_cons_zero, List.set_cons_succ])
              refine wpAnyH_take (i := 17) (v := undef) rfl (by kernel_rfl) (by kernel_rfl) (by kernel_rfl) (fun _ _ _ h => h) (Or.inr ⟨by rfl, rfl⟩) (by assumption) ?_
              (try simp only [List.getElem_toArray, List.getElem_cons_succ, List.getElem_cons_zero, Act.put, List.setIfInBounds_toArray, List.set_cons_zero, List.set_cons_succ])
              refine wpAnyH_take (i := 18) (v := ?_) rfl (by kernel_rfl) (by kernel_rfl) (by kernel_rfl) (fun _ _ _ h => h) (Or.inl ⟨by rfl, ?_⟩) (by assumption) ?_
              rotate_left
              · intro w9 hSw; (try dsimp only at hSw); go_simp; (first | done | with_reducible rfl)
              (try simp only [List.getElem_toArray, List.getElem_cons_succ, List.getElem_cons_zero, Act.put, List.setIfInBounds_toArray, List.set_cons_zero, List.set_cons_succ])
              refine wpAnyH_done (by kernel_rfl) ?_ _
              have hX : Ext wr w1 := (Ext.pDrew (Ext.refl _)).trans hE1
              have hY := hE'.trans hX
              clear hE1 hE'
              go_wp2
              go_ret
              exact ⟨retB (by simp only [diskOk, all_no (p := wOk rs.length) hx (by simp [wOk, Hin.out]), Bool.and_false]), hY⟩
            · cases hrk : rowOk x.2
              · have Hin := Lib.hid hin; clear hin
                have Hrk := Lib.hid hrk; clear hrk
                go_wp2
                go_region_held3 (fun ω => ω.cell? ⟨w.heap.size, 0, none⟩ = some (.slice a rs.length cap) ∧ ω.cell? ⟨w.heap.size, 1, none⟩ = some (.slice (some ⟨b, off, none⟩) ws.length cap') ∧ ω.cell? ⟨b, off + k * 2, none⟩ = some (.int .i64 x.1) ∧ ω.cell? ⟨b, off + k * 2 + 1, none⟩ = some (.slice ya x.2.length yc) ∧ Ext wr ω)
                  ((refine ⟨cell_ext hB0 ?_, cell_ext hB1 ?_, cell_ext hc0 ?_, cell_ext hc1 ?_, ?_⟩ <;> (repeat (first | with_reducible exact Ext.refl _ | with_reducible assumption | with_reducible refine Ext.pAlloc ?_ _ | ((with_reducible refine Ext.pSet ?_ ?_ _); rotate_left; (simp <;> omega)) | with_reducible refine Ext.pDrew ?_ | with_reducible refine Ext.pDrewN ?_ _ | with_reducible refine Ext.trans ?_ (by with_reducible assumption)))))
                  ((first
                    | (go_at_call 51; refine (l3Has_c _ (rs, ws) _ _ (diskC.vext HD.out (by repeat (first | with_reducible exact Ext.refl _ | with_reducible assumption | with_reducible refine Ext.pAlloc ?_ _ | ((with_reducible refine Ext.pSet ?_ ?_ _); rotate_left; (simp <;> omega)) | with_reducible refine Ext.pDrew ?_ | with_reducible refine Ext.pDrewN ?_ _ | with_reducible refine Ext.trans ?_ (by with_reducible assumption))))).mono ?_; dsimp only; rw [Hin.out]; rintro e w1 ⟨rfl, hE1⟩)
                    | (go_at_call 89; refine (specRowOk_c _ x.2 _ (rowC.vext HV.out (by repeat (first | with_reducible exact Ext.refl _ | with_reducible assumption | with_reducible refine Ext.pAlloc ?_ _ | ((with_reducible refine Ext.pSet ?_ ?_ _); rotate_left; (simp <;> omega)) | with_reducible refine Ext.pDrew ?_ | with_reducible refine Ext.pDrewN ?_ _ | with_reducible refine Ext.trans ?_ (by with_reducible assumption))))).mono ?_; rw [Hrk.out]; rintro e w2 ⟨rfl, rfl⟩)))
                have hX : Ext wr w1 := (Ext.pDrew (Ext.refl _)).trans hE1
                have hY := hE'.trans hX
                clear hE1 hE'
                go_wp2
                go_ret
                exact ⟨retB (by simp only [diskOk, all_no (p := wOk rs.length) hx (by simp [wOk, Hrk.out]), Bool.and_false]), hY⟩
              · have Hin := Lib.hid hin; clear hin
                have Hrk := Lib.hid hrk; clear hrk
                go_wp2
                go_region_held3 (fun ω => ω.cell? ⟨w.heap.size, 0, none⟩ = some (.slice a rs.length cap) ∧ ω.cell? ⟨w.heap.size, 1, none⟩ = some (.slice (some ⟨b, off, none⟩) ws.length cap') ∧ ω.cell? ⟨b, off + k * 2, none⟩ = some (.int .i64 x.1) ∧ ω.cell? ⟨b, off + k * 2 + 1, none⟩ = some (.slice ya x.2.length yc) ∧ Ext wr ω)
                  ((refine ⟨cell_ext hB0 ?_, cell_ext hB1 ?_, cell_ext hc0 ?_, cell_ext hc1 ?_, ?_⟩ <;> (repeat (first | with_reducible exact Ext.refl _ | with_reducible assumption | with_reducible refine Ext.pAlloc ?_ _ | ((with_reducible refine Ext.pSet ?_ ?_ _); rotate_left; (simp <;> omega)) | with_reducible refine Ext.pDrew ?_ | with_reducible refine Ext.pDrewN ?_ _ | with_reducible refine Ext.trans ?_ (by with_reducible assumption)))))
                  ((first
                    | (go_at_call 51; refine (l3Has_c _ (rs, ws) _ _ (diskC.vext HD.out (by repeat (first | with_reducible exact Ext.refl _ | with_reducible assumption | with_reducible refine Ext.pAlloc ?_ _ | ((with_reducible refine Ext.pSet ?_ ?_ _); rotate_left; (simp <;> omega)) | with_reducible refine Ext.pDrew ?_ | with_reducible refine Ext.pDrewN ?_ _ | with_reducible refine Ext.trans ?_ (by with_reducible assumption))))).mono ?_; dsimp only; rw [Hin.out]; rintro e w1 ⟨rfl, hE1⟩)
                    | (go_at_call 89; refine (specRowOk_c _ x.2 _ (rowC.vext HV.out (by repeat (first | with_reducible exact Ext.refl _ | with_reducible assumption | with_reducible refine Ext.pAlloc ?_ _ | ((with_reducible refine Ext.pSet ?_ ?_ _); rotate_left; (simp <;> omega)) | with_reducible refine Ext.pDrew ?_ | with_reducible refine Ext.pDrewN ?_ _ | with_reducible refine Ext.trans ?_ (by with_reducible assumption))))).mono ?_; rw [Hrk.out]; rintro e w2 ⟨rfl, rfl⟩)))
                have hX : Ext wr w1 := (Ext.pDrew (Ext.refl _)).trans hE1
                have hY := hE'.trans hX
                clear hE1 hE'
                have hC0 := cell_ext hB0 hX
                have hC1 := cell_ext hB1 hX
                have hsz' : w.heap.size < w1.heap.size := Nat.lt_of_lt_of_le hsz hX.size
                clear hX
                go_wp2
                go_roundw
                case rel => exact ⟨k + 1, by omega, by go_num, all_take (p := wOk rs.length) hx Hp.out (by simp [wOk, Hin.out, Hrk.out]), hY, hsz', hC0, hC1⟩
                case measure => simp [intOf]; omega
          · have he : k = ws.length := by omega
            subst he
            have Hpp := Hp.out
            rw [List.take_length] at Hpp
            have HQ := Lib.hid Hpp; clear Hpp Hp
            go_wp2
            go_ret
            exact ⟨retB (by simp [diskOk, HP.out, HQ.out, l1, l2, l3]), hE.out⟩
  · have hs := diskOk_size hl
    rw [hs]
    have Hs := Lib.hid hs; clear hs HD
    by_cases l1 : 1 ≤ rs.length
    · by_cases l2 : rs.length ≤ 40
      · have l3 : ¬ ws.length ≤ 60 := fun l3 => hl ⟨l1, l2, l3⟩
        clear hl hc hc'
        go_enter Try.func76, Try.ntmps76
        go_wp2
        go_ret
        exact ⟨rfl, Ext.alloc _ _⟩
      · clear hl hc hc'
        go_enter Try.func76, Try.ntmps76
        go_wp2
        go_ret
        exact ⟨rfl, Ext.alloc _ _⟩
    · clear hl hc hc'
      go_enter Try.func76, Try.ntmps76
      go_wp2
      go_ret
      exact ⟨rfl, Ext.alloc _ _⟩

end Go.Proofs.Ytbapomhoipdanaa
