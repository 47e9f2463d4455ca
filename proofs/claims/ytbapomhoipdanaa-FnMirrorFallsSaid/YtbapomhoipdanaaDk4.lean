/- Disks: what a reader of a sector sees. -/
import Derived.Test.YtbapomhoipdanaaDk3
set_option linter.unusedVariables false
set_option linter.unusedSimpArgs false
namespace Go.Proofs.Ytbapomhoipdanaa
open Go.RowKit Go.Sl

def lastW (n : Int) (ws : List WriteD) : Option WriteD := ws.reverse.find? (fun x => x.1 == n)
def readRow (d : DiskD) (n : Int) : List Int := match lastW n d.2 with | some x => x.2 | none => d.1.getD n.toNat []
def readAt (d : DiskD) (n : Int) : List Int × Bool :=
  if diskOk d = true ∧ inB n 0 ((d.1.length : Int) - 1) = true then
    (readRow d n, true)
  else ([], false)
theorem lastW_none {n : Int} {ws : List WriteD} (h : ∀ y ∈ ws, y.1 ≠ n) : lastW n ws = none := by
  unfold lastW
  rw [List.find?_eq_none]
  intro x hx
  simpa using h x (by simpa using hx)
theorem lastW_some {n : Int} {ws : List WriteD} {j : Nat} {x : WriteD} (hx : Hid (ws[j]? = some x)) (h : ∀ y ∈ ws.drop (j + 1), y.1 ≠ n) (he : x.1 = n) : lastW n ws = some x := by
  have hd : ws = ws.take j ++ (x :: ws.drop (j + 1)) := by
    have hlt : j < ws.length := (List.getElem?_eq_some_iff.1 hx.out).1
    have : ws[j] = x := (List.getElem?_eq_some_iff.1 hx.out).2
    rw [← this, ← List.drop_eq_getElem_cons hlt, List.take_append_drop]
  unfold lastW
  rw [hd, List.reverse_append, List.find?_append, List.reverse_cons, List.find?_append]
  have h1 : (ws.drop (j + 1)).reverse.find? (fun x => x.1 == n) = none := lastW_none h
  rw [h1]
  simp [he]
theorem drop_no {ws : List WriteD} {j : Nat} {x : WriteD} {n : Int} (hx : Hid (ws[j]? = some x)) (h : ∀ y ∈ ws.drop (j + 1), y.1 ≠ n) (he : x.1 ≠ n) : ∀ y ∈ ws.drop j, y.1 ≠ n := by
  have hlt : j < ws.length := (List.getElem?_eq_some_iff.1 hx.out).1
  have hh : ws[j] = x := (List.getElem?_eq_some_iff.1 hx.out).2
  intro y hy
  rw [List.drop_eq_getElem_cons hlt, hh] at hy
  rcases List.mem_cons.1 hy with rfl | hy
  · exact he
  · exact h y hy
theorem diskOk_rows {rs : List (List Int)} {ws : List WriteD} (h : diskOk (rs, ws) = true) : (∀ x ∈ rs, x.length ≤ 48) ∧ (∀ x ∈ ws, x.2.length ≤ 48) ∧ 1 ≤ rs.length ∧ rs.length ≤ 40 ∧ ws.length ≤ 60 := by
  simp only [diskOk, Bool.and_eq_true, decide_eq_true_eq, List.all_eq_true, wOk] at h
  obtain ⟨⟨⟨⟨h1, h2⟩, h3⟩, h4⟩, h5⟩ := h
  exact ⟨fun x hx => rowOk_len (h4 x hx), fun x hx => rowOk_len (h5 x hx).2, h1, h2, h3⟩

set_option maxHeartbeats 1600000 in
set_option maxRecDepth 20000 in
theorem implReadAt_c (cs : List Value) (d : DiskD) (n : Int) (w : World) (h : diskC.V w cs d) :
    Calls Try.prog 56 #[.agg cs.toArray, .int .i64 n] w fun e w' => ∃ v', e = .returned (.tuple #[v', .bool (readAt d n).2]) ∧ Ext w w' ∧ rowC.own w.heap.size w'.heap.size w' [v'] (readAt d n).1 := by
  have HD := Lib.hid h
  obtain ⟨u, v, rfl, hu, hv⟩ := disk_V.1 h
  obtain ⟨rs, ws⟩ := d
  obtain ⟨a, cap, rfl, h1, h2, hc⟩ := slice_open1 (R := rowC) rfl hu
  obtain ⟨a', cap', rfl, h1', h2', hc'⟩ := slice_open (R := writeC) (by decide) hv
  clear hu hv h
  simp only at h1 hc h1' hc'
  cases hd : diskOk (rs, ws)
  · have hr : readAt (rs, ws) n = ([], false) := by simp [readAt, hd]
    rw [hr]
    have Hd := Lib.hid hd; clear hd hr hc hc'
    go_enter Try.func56, Try.ntmps56
    go_wp2_with fail
    refine (implDiskOk_c _ (rs, ws) _ (diskC.vext HD.out (by repeat (first | with_reducible exact Ext.refl _ | with_reducible assumption | with_reducible refine Ext.pAlloc ?_ _ | ((with_reducible refine Ext.pSet ?_ ?_ _); rotate_left; (simp <;> omega)) | with_reducible refine Ext.pDrew ?_ | with_reducible refine Ext.pDrewN ?_ _ | with_reducible refine Ext.trans ?_ (by with_reducible assumption))))).mono ?_
    rw [Hd.out]
    rintro e w1 ⟨rfl, hE1⟩
    have c0 : w1.cell? ⟨w.heap.size, 0, none⟩ = some (.slice a rs.length cap) := cell_ext (by simp [go_sem]) hE1
    have c1 : w1.cell? ⟨w.heap.size, 1, none⟩ = some (.slice a' ws.length cap') := cell_ext (by simp [go_sem]) hE1
    have hE : Ext w w1 := (Ext.pAlloc (Ext.refl _) _).trans hE1
    clear hE1
    go_wp2
    go_ret2
    exact ⟨_, rfl, hE, row_nil _ _ _⟩
  · cases hs : inB n 0 ((rs.length : Int) - 1)
    · have hr : readAt (rs, ws) n = ([], false) := by simp [readAt, hs]
      rw [hr]
      have Hd := Lib.hid hd
      have Hs := Lib.hid hs; clear hd hs hr hc hc'
      go_enter Try.func56, Try.ntmps56
      go_wp2_with fail
      refine (implDiskOk_c _ (rs, ws) _ (diskC.vext HD.out (by repeat (first | with_reducible exact Ext.refl _ | with_reducible assumption | with_reducible refine Ext.pAlloc ?_ _ | ((with_reducible refine Ext.pSet ?_ ?_ _); rotate_left; (simp <;> omega)) | with_reducible refine Ext.pDrew ?_ | with_reducible refine Ext.pDrewN ?_ _ | with_reducible refine Ext.trans ?_ (by with_reducible assumption))))).mono ?_
      rw [Hd.out]
      rintro e w1 ⟨rfl, hE1⟩
      have c0 : w1.cell? ⟨w.heap.size, 0, none⟩ = some (.slice a rs.length cap) := cell_ext (by simp [go_sem]) hE1
      have c1 : w1.cell? ⟨w.heap.size, 1, none⟩ = some (.slice a' ws.length cap') := cell_ext (by simp [go_sem]) hE1
      have hE : Ext w w1 := (Ext.pAlloc (Ext.refl _) _).trans hE1
      clear hE1
      go_wp2_with fail
      refine (sectorOk_c _ (rs, ws) _ _ (diskC.vext HD.out hE)).mono ?_
      dsimp only
      rw [Hs.out]
      rintro e w2 ⟨rfl, hE2⟩
      replace c0 := cell_ext c0 hE2
      replace c1 := cell_ext c1 hE2
      replace hE := hE.trans hE2
      clear hE2
      go_wp2
      go_ret2
      exact ⟨_, rfl, hE, row_nil _ _ _⟩
    · have Hd := Lib.hid hd
      have Hs := Lib.hid hs
      obtain ⟨z1, z2, z3, z4, z5⟩ := diskOk_rows hd
      have Z1 := Lib.hid z1
      have Z2 := Lib.hid z2
      have hn := hs
      simp only [inB, Bool.and_eq_true, decide_eq_true_eq] at hn
      obtain ⟨m, rfl⟩ : ∃ m : Nat, n = m := ⟨n.toNat, by omega⟩
      have hm : m < rs.length := by omega
      have hr : readAt (rs, ws) m = (readRow (rs, ws) m, true) := by simp [readAt, hd, hs]
      rw [hr]
      obtain ⟨b0, o0, x0, u0, rfl, hx0, hv0, hcell0⟩ := hc m hm
      obtain ⟨ua, uc, rfl⟩ := u_slice hv0
      have HV0 := Lib.hid hv0
      have hi1 : (0 : Int) ≤ m := by omega
      have hi2 : (m : Int) < rs.length := by omega
      have hw1 : IntKind.i64.wrap ((ws.length : Int) - 1) = ws.length - 1 := IntWalk.i64_in _ (by omega)
      clear hd hs hr hc hv0 z1 z2 hn
      go_enter Try.func56, Try.ntmps56
      go_wp2_with fail
      refine (implDiskOk_c _ (rs, ws) _ (diskC.vext HD.out (by repeat (first | with_reducible exact Ext.refl _ | with_reducible assumption | with_reducible refine Ext.pAlloc ?_ _ | ((with_reducible refine Ext.pSet ?_ ?_ _); rotate_left; (simp <;> omega)) | with_reducible refine Ext.pDrew ?_ | with_reducible refine Ext.pDrewN ?_ _ | with_reducible refine Ext.trans ?_ (by with_reducible assumption))))).mono ?_
      rw [Hd.out]
      rintro e w1 ⟨rfl, hE1⟩
      have c0 : w1.cell? ⟨w.heap.size, 0, none⟩ = some (.slice (some ⟨b0, o0, none⟩) rs.length cap) := cell_ext (by simp [go_sem]) hE1
      have c1 : w1.cell? ⟨w.heap.size, 1, none⟩ = some (.slice a' ws.length cap') := cell_ext (by simp [go_sem]) hE1
      have hE : Ext w w1 := (Ext.pAlloc (Ext.refl _) _).trans hE1
      clear hE1
      go_wp2_with fail
      refine (sectorOk_c _ (rs, ws) _ _ (diskC.vext HD.out hE)).mono ?_
      dsimp only
      rw [Hs.out]
      rintro e w2 ⟨rfl, hE2⟩
      replace c0 := cell_ext c0 hE2
      replace c1 := cell_ext c1 hE2
      replace hE := hE.trans hE2
      clear hE2
      have hsz : w.heap.size < w2.heap.size := World.block_lt_of_cell? _ _ c0
      go_wp2
      go_loopw [6] (fun i wr => ((∃ j : Nat, j < ws.length ∧ i = .int .i64 j ∧ Hid (∀ y ∈ ws.drop (j + 1), y.1 ≠ m)) ∨ (i = .int .i64 (-1) ∧ Hid (∀ y ∈ ws, y.1 ≠ m))) ∧ Hid (Ext w wr) ∧ wr.cell? ⟨w.heap.size, 0, none⟩ = some (.slice (some ⟨b0, o0, none⟩) rs.length cap) ∧ wr.cell? ⟨w.heap.size, 1, none⟩ = some (.slice a' ws.length cap')) (fun i _ => (intOf i + 1).toNat)
      case atStart =>
        refine ⟨?_, hE, c0, c1⟩
        by_cases h0 : ws.length = 0
        · exact .inr ⟨valI (by omega), by rw [List.eq_nil_of_length_eq_zero h0]; intro y hy; cases hy⟩
        · exact .inl ⟨ws.length - 1, by omega, valI (by omega), by rw [List.drop_of_length_le (by omega)]; intro y hy; cases hy⟩
      case round =>
        clear hE c0 c1 hsz
        obtain ⟨hj, hE, c0, c1⟩ := hrel
        have hE' := hE.out
        have hsz : w.heap.size < wr.heap.size := World.block_lt_of_cell? _ _ c0
        rcases hj with ⟨j, hj, rfl, hno⟩ | ⟨rfl, hno⟩
        · obtain ⟨b, off, x, c, rfl, hx, hvx, hcell⟩ := hc' j hj
          clear hc'
          obtain ⟨y, rfl, hvy⟩ := write_V.1 hvx
          have HV := Lib.hid (rowC.vext hvy hE.out)
          obtain ⟨ya, yc, rfl⟩ := u_slice hvy
          clear hvx hvy
          have d0 : wr.cell? ⟨b, off + j * 2, none⟩ = some (.int .i64 x.1) := cell_ext (hcell 0 _ rfl) hE.out
          have d1 : wr.cell? ⟨b, off + j * 2 + 1, none⟩ = some (.slice ya x.2.length yc) := cell_ext (hcell 1 _ rfl) hE.out
          clear hcell
          have hj1 : (0 : Int) ≤ j := by omega
          have hj2 : (j : Int) < ws.length := by omega
          by_cases he : x.1 = (m : Int)
          · have hb : (x.1 == (m : Int)) = true := by simpa using he
            have He := Lib.hid he; clear he
            have hlen := Z2.out x (List.mem_of_getElem? hx.out)
            have hl := Lib.hid (lastW_some hx hno.out He.out)
            go_wp2_with fail
            refine (copyRow_c _ x.2 _ HV.out (by omega)).mono ?_
            rintro e w3 ⟨v', rfl, hE3, hO⟩
            go_wp2
            go_ret2
            refine ⟨_, rfl, hE'.trans hE3, ?_⟩
            rw [show readRow (rs, ws) m = x.2 by unfold readRow; rw [hl.out]]
            exact hO.wide hE'.size (Nat.le_refl _)
          · have hb : (x.1 == (m : Int)) = false := by simpa using he
            have He := Lib.hid he; clear he
            have hw2 : IntKind.i64.wrap ((j : Int) - 1) = j - 1 := IntWalk.i64_in _ (by omega)
            go_wp2
            go_roundw
            case rel =>
              refine ⟨?_, hE, c0, c1⟩
              have hdr := drop_no hx hno.out He.out
              by_cases h0 : j = 0
              · subst h0
                exact .inr ⟨valI (by omega), by simpa [Hid] using hdr⟩
              · exact .inl ⟨j - 1, by omega, valI (by omega), by rw [Nat.sub_add_cancel (by omega)]; exact hdr⟩
            case measure => simp [intOf] <;> omega
        · have hcw := cell_ext hcell0 hE.out
          have hlen := Z1.out x0 (List.mem_of_getElem? hx0.out)
          have hl := Lib.hid (lastW_none hno.out)
          go_wp2_with fail
          refine (copyRow_c _ x0 _ (rowC.vext HV0.out hE') (by omega)).mono ?_
          rintro e w3 ⟨v', rfl, hE3, hO⟩
          go_wp2
          go_ret2
          refine ⟨_, rfl, hE'.trans hE3, ?_⟩
          rw [show readRow (rs, ws) m = x0 by unfold readRow; rw [hl.out]; simp [hx0.out]]
          exact hO.wide hE'.size (Nat.le_refl _)

set_option maxHeartbeats 1600000 in
set_option maxRecDepth 20000 in
theorem specReadAt_c (cs : List Value) (d : DiskD) (n : Int) (w : World) (h : diskC.V w cs d) :
    Calls Try.prog 52 #[.agg cs.toArray, .int .i64 n] w fun e w' => ∃ v', e = .returned (.tuple #[v', .bool (readAt d n).2]) ∧ Ext w w' ∧ rowC.own w.heap.size w'.heap.size w' [v'] (readAt d n).1 := by
  have HD := Lib.hid h
  obtain ⟨u, v, rfl, hu, hv⟩ := disk_V.1 h
  obtain ⟨rs, ws⟩ := d
  obtain ⟨a, cap, rfl, h1, h2, hc⟩ := slice_open1 (R := rowC) rfl hu
  obtain ⟨a', cap', rfl, h1', h2', hc'⟩ := slice_open (R := writeC) (by decide) hv
  clear hu hv h
  simp only at h1 hc h1' hc'
  cases hd : diskOk (rs, ws)
  · have hr : readAt (rs, ws) n = ([], false) := by simp [readAt, hd]
    rw [hr]
    have Hd := Lib.hid hd; clear hd hr hc hc'
    go_enter Try.func52, Try.ntmps52
    go_wp2_with fail
    refine (specDiskOk_c _ (rs, ws) _ (diskC.vext HD.out (by repeat (first | with_reducible exact Ext.refl _ | with_reducible assumption | with_reducible refine Ext.pAlloc ?_ _ | ((with_reducible refine Ext.pSet ?_ ?_ _); rotate_left; (simp <;> omega)) | with_reducible refine Ext.pDrew ?_ | with_reducible refine Ext.pDrewN ?_ _ | with_reducible refine Ext.trans ?_ (by with_reducible assumption))))).mono ?_
    rw [Hd.out]
    rintro e w1 ⟨rfl, hE1⟩
    have c0 : w1.cell? ⟨w.heap.size, 0, none⟩ = some (.slice a rs.length cap) := cell_ext (by simp [go_sem]) hE1
    have c1 : w1.cell? ⟨w.heap.size, 1, none⟩ = some (.slice a' ws.length cap') := cell_ext (by simp [go_sem]) hE1
    have hE : Ext w w1 := (Ext.pAlloc (Ext.refl _) _).trans hE1
    clear hE1
    go_wp2
    go_ret2
    exact ⟨_, rfl, hE.trans (Ext.alloc _ _), row_empty _ _ _ hE.size⟩
  · cases hs : inB n 0 ((rs.length : Int) - 1)
    · have hr : readAt (rs, ws) n = ([], false) := by simp [readAt, hs]
      rw [hr]
      have Hd := Lib.hid hd
      have Hs := Lib.hid hs; clear hd hs hr hc hc'
      go_enter Try.func52, Try.ntmps52
      go_wp2_with fail
      refine (specDiskOk_c _ (rs, ws) _ (diskC.vext HD.out (by repeat (first | with_reducible exact Ext.refl _ | with_reducible assumption | with_reducible refine Ext.pAlloc ?_ _ | ((with_reducible refine Ext.pSet ?_ ?_ _); rotate_left; (simp <;> omega)) | with_reducible refine Ext.pDrew ?_ | with_reducible refine Ext.pDrewN ?_ _ | with_reducible refine Ext.trans ?_ (by with_reducible assumption))))).mono ?_
      rw [Hd.out]
      rintro e w1 ⟨rfl, hE1⟩
      have c0 : w1.cell? ⟨w.heap.size, 0, none⟩ = some (.slice a rs.length cap) := cell_ext (by simp [go_sem]) hE1
      have c1 : w1.cell? ⟨w.heap.size, 1, none⟩ = some (.slice a' ws.length cap') := cell_ext (by simp [go_sem]) hE1
      have hE : Ext w w1 := (Ext.pAlloc (Ext.refl _) _).trans hE1
      clear hE1
      go_wp2_with fail
      refine (l3Has_c _ (rs, ws) _ _ (diskC.vext HD.out hE)).mono ?_
      dsimp only
      rw [Hs.out]
      rintro e w2 ⟨rfl, hE2⟩
      replace c0 := cell_ext c0 hE2
      replace c1 := cell_ext c1 hE2
      replace hE := hE.trans hE2
      clear hE2
      go_wp2
      go_ret2
      exact ⟨_, rfl, hE.trans (Ext.alloc _ _), row_empty _ _ _ hE.size⟩
    · have Hd := Lib.hid hd
      have Hs := Lib.hid hs
      obtain ⟨z1, z2, z3, z4, z5⟩ := diskOk_rows hd
      have Z1 := Lib.hid z1
      have Z2 := Lib.hid z2
      have hn := hs
      simp only [inB, Bool.and_eq_true, decide_eq_true_eq] at hn
      obtain ⟨m, rfl⟩ : ∃ m : Nat, n = m := ⟨n.toNat, by omega⟩
      have hm : m < rs.length := by omega
      have hr : readAt (rs, ws) m = (readRow (rs, ws) m, true) := by simp [readAt, hd, hs]
      rw [hr]
      obtain ⟨b0, o0, x0, u0, rfl, hx0, hv0, hcell0⟩ := hc m hm
      obtain ⟨ua, uc, rfl⟩ := u_slice hv0
      have HV0 := Lib.hid hv0
      have hi1 : (0 : Int) ≤ m := by omega
      have hi2 : (m : Int) < rs.length := by omega
      have hw1 : IntKind.i64.wrap ((ws.length : Int) - 1) = ws.length - 1 := IntWalk.i64_in _ (by omega)
      clear hd hs hr hc hv0 z1 z2 hn
      go_enter Try.func52, Try.ntmps52
      go_wp2_with fail
      refine (specDiskOk_c _ (rs, ws) _ (diskC.vext HD.out (by repeat (first | with_reducible exact Ext.refl _ | with_reducible assumption | with_reducible refine Ext.pAlloc ?_ _ | ((with_reducible refine Ext.pSet ?_ ?_ _); rotate_left; (simp <;> omega)) | with_reducible refine Ext.pDrew ?_ | with_reducible refine Ext.pDrewN ?_ _ | with_reducible refine Ext.trans ?_ (by with_reducible assumption))))).mono ?_
      rw [Hd.out]
      rintro e w1 ⟨rfl, hE1⟩
      have c0 : w1.cell? ⟨w.heap.size, 0, none⟩ = some (.slice (some ⟨b0, o0, none⟩) rs.length cap) := cell_ext (by simp [go_sem]) hE1
      have c1 : w1.cell? ⟨w.heap.size, 1, none⟩ = some (.slice a' ws.length cap') := cell_ext (by simp [go_sem]) hE1
      have hE : Ext w w1 := (Ext.pAlloc (Ext.refl _) _).trans hE1
      clear hE1
      go_wp2_with fail
      refine (l3Has_c _ (rs, ws) _ _ (diskC.vext HD.out hE)).mono ?_
      dsimp only
      rw [Hs.out]
      rintro e w2 ⟨rfl, hE2⟩
      replace c0 := cell_ext c0 hE2
      replace c1 := cell_ext c1 hE2
      replace hE := hE.trans hE2
      clear hE2
      have hsz : w.heap.size < w2.heap.size := World.block_lt_of_cell? _ _ c0
      go_wp2
      go_loopw [6] (fun i wr => ((∃ j : Nat, j < ws.length ∧ i = .int .i64 j ∧ Hid (∀ y ∈ ws.drop (j + 1), y.1 ≠ m)) ∨ (i = .int .i64 (-1) ∧ Hid (∀ y ∈ ws, y.1 ≠ m))) ∧ Hid (Ext w wr) ∧ wr.cell? ⟨w.heap.size, 0, none⟩ = some (.slice (some ⟨b0, o0, none⟩) rs.length cap) ∧ wr.cell? ⟨w.heap.size, 1, none⟩ = some (.slice a' ws.length cap')) (fun i _ => (intOf i + 1).toNat)
      case atStart =>
        refine ⟨?_, hE, c0, c1⟩
        by_cases h0 : ws.length = 0
        · exact .inr ⟨valI (by omega), by rw [List.eq_nil_of_length_eq_zero h0]; intro y hy; cases hy⟩
        · exact .inl ⟨ws.length - 1, by omega, valI (by omega), by rw [List.drop_of_length_le (by omega)]; intro y hy; cases hy⟩
      case round =>
        clear hE c0 c1 hsz
        obtain ⟨hj, hE, c0, c1⟩ := hrel
        have hE' := hE.out
        have hsz : w.heap.size < wr.heap.size := World.block_lt_of_cell? _ _ c0
        rcases hj with ⟨j, hj, rfl, hno⟩ | ⟨rfl, hno⟩
        · obtain ⟨b, off, x, c, rfl, hx, hvx, hcell⟩ := hc' j hj
          clear hc'
          obtain ⟨y, rfl, hvy⟩ := write_V.1 hvx
          have HV := Lib.hid (rowC.vext hvy hE.out)
          obtain ⟨ya, yc, rfl⟩ := u_slice hvy
          clear hvx hvy
          have d0 : wr.cell? ⟨b, off + j * 2, none⟩ = some (.int .i64 x.1) := cell_ext (hcell 0 _ rfl) hE.out
          have d1 : wr.cell? ⟨b, off + j * 2 + 1, none⟩ = some (.slice ya x.2.length yc) := cell_ext (hcell 1 _ rfl) hE.out
          clear hcell
          have hj1 : (0 : Int) ≤ j := by omega
          have hj2 : (j : Int) < ws.length := by omega
          by_cases he : x.1 = (m : Int)
          · have hb : (x.1 == (m : Int)) = true := by simpa using he
            have He := Lib.hid he; clear he
            have hlen := Z2.out x (List.mem_of_getElem? hx.out)
            have hl := Lib.hid (lastW_some hx hno.out He.out)
            go_wp2_with fail
            refine (l1Copy_c _ x.2 _ HV.out (by omega)).mono ?_
            rintro e w3 ⟨v', rfl, hE3, hO⟩
            go_wp2
            go_ret2
            refine ⟨_, rfl, hE'.trans hE3, ?_⟩
            rw [show readRow (rs, ws) m = x.2 by unfold readRow; rw [hl.out]]
            exact hO.wide hE'.size (Nat.le_refl _)
          · have hb : (x.1 == (m : Int)) = false := by simpa using he
            have He := Lib.hid he; clear he
            have hw2 : IntKind.i64.wrap ((j : Int) - 1) = j - 1 := IntWalk.i64_in _ (by omega)
            go_wp2
            go_roundw
            case rel =>
              refine ⟨?_, hE, c0, c1⟩
              have hdr := drop_no hx hno.out He.out
              by_cases h0 : j = 0
              · subst h0
                exact .inr ⟨valI (by omega), by simpa [Hid] using hdr⟩
              · exact .inl ⟨j - 1, by omega, valI (by omega), by rw [Nat.sub_add_cancel (by omega)]; exact hdr⟩
            case measure => simp [intOf] <;> omega
        · have hcw := cell_ext hcell0 hE.out
          have hlen := Z1.out x0 (List.mem_of_getElem? hx0.out)
          have hl := Lib.hid (lastW_none hno.out)
          go_wp2_with fail
          refine (l1Copy_c _ x0 _ (rowC.vext HV0.out hE') (by omega)).mono ?_
          rintro e w3 ⟨v', rfl, hE3, hO⟩
          go_wp2
          go_ret2
          refine ⟨_, rfl, hE'.trans hE3, ?_⟩
          rw [show readRow (rs, ws) m = x0 by unfold readRow; rw [hl.out]; simp [hx0.out]]
          exact hO.wide hE'.size (Nat.le_refl _)

end Go.Proofs.Ytbapomhoipdanaa
