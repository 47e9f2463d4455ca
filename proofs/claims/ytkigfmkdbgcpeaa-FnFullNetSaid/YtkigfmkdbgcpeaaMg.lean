/- Slices of messages: the laws' helpers on them. -/
import Derived.Test.YtkigfmkdbgcpeaaRws
import Derived.Test.YtkigfmkdbgcpeaaMsg0
import Derived.StillTailTactics
set_option linter.unusedVariables false
set_option linter.unusedSimpArgs false
namespace Go.Sl
open Go.RowKit

theorem msg_O {w : World} {cs : List Value} {m : Int × Int × List Int} {fp : List Nat} : msgC.O w cs m fp ↔ ∃ v, cs = [.int .i64 m.1, .int .i64 m.2.1, v] ∧ rowC.O w [v] m.2.2 fp := by
  constructor
  · rintro ⟨c, d, f, g, rfl, rfl, ⟨rfl, rfl⟩, c', d', f', g', rfl, rfl, ⟨rfl, rfl⟩, h⟩
    obtain ⟨v, rfl⟩ := one_cell (rowC.len (rowC.view h))
    exact ⟨v, rfl, h⟩
  · rintro ⟨v, rfl, h⟩
    exact ⟨[_], [_, v], [], fp, rfl, rfl, ⟨rfl, rfl⟩, [_], [v], [], fp, rfl, rfl, ⟨rfl, rfl⟩, h⟩

end Go.Sl
namespace Go.Proofs.Ytkigfmkdbgcpeaa
open Go.RowKit Go.Sl

abbrev msgsC : Cd (List MsgD) := sliceC msgC
def mcnt (m : MsgD) : Nat := 2 + m.2.2.length
def mmk (q : Int) (m : MsgD) : MsgD := (q, q + 1, iota (q + 1 + 1) m.2.2.length)
/-- What a message takes of the bound: its row. -/
def msz (m : MsgD) : Nat := m.2.2.length

theorem szMsg_e (cs : List Value) (m : MsgD) (q : Int) (w : World) (h : msgC.V w cs m) (h0 : -1 ≤ q) (h1 : q ≤ 1048576) :
    Calls Try.prog 30 #[.agg cs.toArray, .int .i64 q] w fun e w' => e = .returned (.int .i64 (szI (msz m) q)) ∧ Ext w w' := szMsg_c cs m q w h h0 h1

set_option maxHeartbeats 400000 in
theorem markMsg_c (cs : List Value) (m : MsgD) (q : Int) (w : World) (lo hi : Nat) (h : msgC.own lo hi w cs m) (hq0 : 0 ≤ q) (hq : q + m.2.2.length ≤ 4611686018427387904) :
    Calls Try.prog 35 #[.agg cs.toArray, .int .i64 q] w fun e w' => e = .returned (.int .i64 (q + m.2.2.length)) ∧ Chg lo hi w w' ∧ msgC.own lo hi w' cs (m.1, m.2.1, iota q m.2.2.length) := by
  obtain ⟨v, rfl, ho⟩ := msg_own.1 h
  obtain ⟨f, t, l⟩ := m
  simp only at ho hq ⊢
  have HO := Lib.hid ho; clear ho h
  go_enter Try.func35, Try.ntmps35
  go_wp2_with fail
  refine (markInt64S_c _ l _ _ lo hi (HO.out.ext (Ext.alloc _ _)) (by omega) (by omega)).mono ?_
  rintro e w1 ⟨rfl, hC, -, hO⟩
  go_wp2
  go_ret
  exact ⟨rfl, (Ext.chg (Ext.alloc _ _) lo hi).trans hC, msg_own.2 ⟨v, rfl, hO⟩⟩

set_option maxHeartbeats 400000 in
theorem heldMsg_c (cs : List Value) (m : MsgD) (q : Int) (w : World) (h : msgC.V w cs (m.1, m.2.1, iota q m.2.2.length)) (hq0 : 0 ≤ q) (hq : q + m.2.2.length ≤ 4611686018427387904) :
    Calls Try.prog 45 #[.agg cs.toArray, .int .i64 q] w fun e w' => e = .returned (.int .i64 (q + m.2.2.length)) ∧ Ext w w' := by
  obtain ⟨v, rfl, ho⟩ := msg_V.1 h
  obtain ⟨f, t, l⟩ := m
  simp only at ho hq ⊢
  have HO := Lib.hid ho; clear ho h
  go_enter Try.func45, Try.ntmps45
  go_wp2_with fail
  refine (heldInt64S_c _ l _ _ (rowC.vext HO.out (Ext.alloc _ _)) (by omega) (by omega)).mono ?_
  rintro e w1 ⟨rfl, hE⟩
  have hp : ¬ (q + (l.length : Int) < 0) := by omega
  go_wp2
  go_ret
  exact ⟨rfl, by repeat (first | with_reducible exact Ext.refl _ | with_reducible assumption | with_reducible refine Ext.pAlloc ?_ _ | ((with_reducible refine Ext.pSet ?_ ?_ _); rotate_left; (simp <;> omega)) | with_reducible refine Ext.pDrew ?_ | with_reducible refine Ext.pDrewN ?_ _ | with_reducible refine Ext.trans ?_ (by with_reducible assumption))⟩

set_option maxHeartbeats 800000 in
theorem szMsgS_c (v : Value) (l : List MsgD) (q : Int) (w : World) (h : msgsC.V w [v] l) (h0 : -1 ≤ q) (h1 : q ≤ 1048576) :
    Calls Try.prog 53 #[v, .int .i64 q] w fun e w' => e = .returned (.int .i64 (szI (l.length + cntL msz l) q)) ∧ Ext w w' := by
  obtain ⟨a, cap, rfl, h1', h2, hc⟩ := slice_open (R := msgC) (by decide) h
  clear h
  by_cases hn : q - l.length < 0
  · have hs : szI (l.length + cntL msz l) q = -1 := by unfold szI; rw [if_pos (by push_cast; omega)]
    rw [hs]; have Hs := Lib.hid hs; clear hs hc
    go_enter Try.func53, Try.ntmps53
    go_wp2
    go_ret
    exact ⟨rfl, Ext.refl _⟩
  · go_enter Try.func53, Try.ntmps53
    go_wp2
    go_loopw [1, 5] (fun u i wr => ∃ (k : Nat) (A : Nat), k ≤ l.length ∧ i = .int .i64 k ∧ u = .int .i64 (q - l.length - A) ∧ A = cntL msz (l.take k) ∧ 0 ≤ q - l.length - A ∧ Ext w wr) (fun _ i _ => l.length - (intOf i).toNat)
    case atStart => exact ⟨0, 0, Nat.zero_le _, rfl, valI (by omega), by simp [cntL], by omega, Ext.refl _⟩
    case round =>
      obtain ⟨k, A, hk, rfl, rfl, hA, hpos, hE⟩ := hrel
      have HA := Lib.hid hA; clear hA
      by_cases hlt : k < l.length
      · obtain ⟨b, off, x, c, rfl, hx, hv, hcell⟩ := hc k hlt
        clear hc
        have hcn := Lib.hid (cntL_snoc msz (l.take k) x)
        have hle := cntL_take_le msz l k hlt
        rw [show l[k] = x from Option.some.inj ((List.getElem?_eq_getElem hlt).symm.trans hx.out), ← HA.out] at hle
        have htk := take_snoc hx
        have Htk := Lib.hid htk; clear htk
        have HV := Lib.hid (msgC.vext hv hE)
        obtain ⟨y, rfl, _⟩ := msg_V.1 hv
        clear hv
        have hc0 : wr.cell? ⟨b, off + k * 3, none⟩ = some (.int .i64 x.1) := cell_ext (hcell 0 _ rfl) hE
        have hc1 : wr.cell? ⟨b, off + k * 3 + 1, none⟩ = some (.int .i64 x.2.1) := cell_ext (hcell 1 _ rfl) hE
        have hc2 : wr.cell? ⟨b, off + k * 3 + 2, none⟩ = some y := cell_ext (hcell 2 _ rfl) hE
        clear hcell
        by_cases hneg : q - l.length - A - msz x < 0
        · have hs : szI (l.length + cntL msz l) q = -1 := by unfold szI; rw [if_pos (by push_cast; omega)]
          have Hs := Lib.hid hs; clear hs
          have hr : szI (msz x) (q - l.length - A) = -1 := by simp [szI, hneg]
          have Hr := Lib.hid hr; clear hr
          go_wp2_with fail
          refine (szMsg_e _ x _ _ HV.out (by omega) (by omega)).mono ?_
          rw [Hr.out]
          rintro e w2 ⟨rfl, hE2⟩
          have hE3 := hE.trans hE2
          clear hE hE2
          go_wp2
          go_ret
          exact ⟨retI Hs.out.symm, hE3⟩
        · have hr : szI (msz x) (q - l.length - A) = q - l.length - A - msz x := by simp [szI, hneg]
          have Hr := Lib.hid hr; clear hr
          go_wp2_with fail
          refine (szMsg_e _ x _ _ HV.out (by omega) (by omega)).mono ?_
          rw [Hr.out]
          rintro e w2 ⟨rfl, hE2⟩
          have hE3 := hE.trans hE2
          clear hE hE2
          go_wp2
          go_roundw
          case rel => exact ⟨k + 1, A + msz x, by omega, by go_num, valI (by push_cast; omega), by rw [Htk.out, hcn.out, HA.out], by push_cast; omega, hE3⟩
          case measure => simp [intOf]; omega
      · have he : k = l.length := by omega
        have He := Lib.hid he; clear he
        go_wp2
        go_ret
        refine ⟨retI ?_, hE⟩
        have := HA.out
        rw [He.out, List.take_length] at this
        rw [← this]
        unfold szI
        rw [if_neg (by push_cast; omega)]
        push_cast; omega

set_option maxHeartbeats 800000 in
theorem toMsgS_c (v : Value) (l : List MsgD) (w : World) (h : msgsC.V w [v] l) (hs : l.length ≤ 2097152 ∧ ∀ x ∈ l, msz x ≤ 2097152) :
    Calls Try.prog 58 #[v] w fun e w' => ∃ v', e = .returned v' ∧ Ext w w' ∧ msgsC.own w.heap.size w'.heap.size w' [v'] l := by
  obtain ⟨a, cap, rfl, h1, h2, hc⟩ := slice_open (R := msgC) (by decide) h
  clear h
  have hinf : (Try.prog.info? 49).map (fun i => (i.zero, i.size, i.bytes)) = some (some (.agg #[.int .i64 0, .int .i64 0, .slice none 0 0]), 3, 40) := by kernel_rfl
  have Hinf := Lib.hid hinf; clear hinf
  have Hs := Lib.hid hs.2
  have hs1 := hs.1
  clear hs
  go_enter Try.func58, Try.ntmps58
  go_wp2_with (at_make; refine wpList_make_sl _ rfl _ _ _ rfl 49 Try.underlying28 _ 3 40 Hinf.out l.length rfl rfl ?b ?b2 ?_)
  case b => omega
  case b2 => omega
  intro w1 zs hsl hzl hzz hE hz
  have hF0 : Filled msgC w1 w.heap.size l.length [] := Filled.start hsl hzl
  clear hsl hzl hzz
  go_wp2
  go_loopw [4] (fun i wr => ∃ k : Nat, k ≤ l.length ∧ i = .int .i64 k ∧ Hid (Filled msgC wr w.heap.size l.length (l.take k)) ∧ Ext w wr ∧ w.heap.size < wr.heap.size) (fun i _ => l.length - (intOf i).toNat)
  case atStart => exact ⟨0, Nat.zero_le _, rfl, by simpa [Hid] using hF0, hE, hz⟩
  case round =>
    clear hE hF0 hz
    obtain ⟨k, hk, rfl, hF, hE, hz⟩ := hrel
    by_cases hlt : k < l.length
    · obtain ⟨b, off, x, c, rfl, hx, hv, hcell⟩ := hc k hlt
      clear hc
      have HV := Lib.hid (msgC.vext hv hE)
      obtain ⟨y, rfl, hvy⟩ := msg_V.1 hv
      have hc0 : wr.cell? ⟨b, off + k * 3, none⟩ = some (.int .i64 x.1) := cell_ext (hcell 0 _ rfl) hE
      have hc1 : wr.cell? ⟨b, off + k * 3 + 1, none⟩ = some (.int .i64 x.2.1) := cell_ext (hcell 1 _ rfl) hE
      have hc2 : wr.cell? ⟨b, off + k * 3 + 2, none⟩ = some y := cell_ext (hcell 2 _ rfl) hE
      obtain ⟨ya, yc, rfl⟩ := u_slice hvy
      have hsm := Hs.out x (List.mem_of_getElem? hx.out)
      clear hcell hv hvy
      go_wp2_with fail
      refine (toMsg_c _ x _ HV.out hsm).mono ?_
      rintro e w2 ⟨u', rfl, hE2, hO⟩
      have hlk : (l.take k).length = k := by rw [List.length_take]; omega
      have hF2 := hF.out.ext hE2
      obtain ⟨⟨y0, hy0⟩, hfz0⟩ := hF2.room (by omega) 0 (by decide)
      obtain ⟨⟨y1, hy1⟩, hfz1⟩ := hF2.room (by omega) 1 (by decide)
      obtain ⟨⟨y2, hy2⟩, hfz2⟩ := hF2.room (by omega) 2 (by decide)
      rw [hlk] at hy0 hfz0 hy1 hfz1 hy2 hfz2
      have hy0' : w2.cell? ⟨w.heap.size, k * 3, none⟩ = some y0 := hy0
      have hy1' : w2.cell? ⟨w.heap.size, k * 3 + 1, none⟩ = some y1 := hy1
      have hy2' : w2.cell? ⟨w.heap.size, k * 3 + 2, none⟩ = some y2 := hy2
      have hf0' : w2.frozen? ⟨w.heap.size, k * 3, none⟩ = false := hfz0
      have hf1' : w2.frozen? ⟨w.heap.size, k * 3 + 1, none⟩ = false := hfz1
      have hf2' : w2.frozen? ⟨w.heap.size, k * 3 + 2, none⟩ = false := hfz2
      have hn := Filled.next hF2 (by omega) hO hz ⟨wr, hF.out, hE2, Nat.le_refl _⟩
      rw [hlk] at hn
      have HN : Hid (Filled msgC (((w2.setCell ⟨w.heap.size, k * 3, none⟩ (.int .i64 x.1)).setCell ⟨w.heap.size, k * 3 + 1, none⟩ (.int .i64 x.2.1)).setCell ⟨w.heap.size, k * 3 + 2, none⟩ u') w.heap.size l.length (l.take (k + 1))) := by rw [take_snoc hx]; exact hn
      have hE3 := hE.trans hE2
      have hz2 := hE2.size
      obtain ⟨v2, hv2, hO2⟩ := msg_own.1 hO
      simp only [List.cons.injEq, true_and, and_true] at hv2
      subst hv2
      have HO := Lib.hid hO2.view
      obtain ⟨a2, c2, rfl⟩ := u_slice HO.out
      clear hn hF2 hE2 hlk hO hsm hO2 hy0 hy1 hy2 hfz0 hfz1 hfz2
      go_wp2
      go_roundw
      case rel => exact ⟨k + 1, by omega, by go_num, HN, Ext.pSet (Ext.pSet (Ext.pSet hE3 (Nat.le_refl _) _) (Nat.le_refl _) _) (Nat.le_refl _) _, by simp [World.setCell]; omega⟩
      case measure => simp [intOf]; omega
    · have he : k = l.length := by omega
      have He := Lib.hid he; clear he
      go_wp2
      go_ret
      have hF' := hF.out
      rw [He.out, List.take_length] at hF'
      exact ⟨_, rfl, hE, Filled.done hF' rfl (Nat.le_refl _) (by omega)⟩

set_option maxHeartbeats 800000 in
theorem heldMsgS_c (v : Value) (l : List MsgD) (q : Int) (w : World) (h : msgsC.V w [v] (mkL mcnt mmk q l)) (hq0 : 0 ≤ q) (hq : q + cntL mcnt l ≤ 4611686018427387904) :
    Calls Try.prog 81 #[v, .int .i64 q] w fun e w' => e = .returned (.int .i64 (q + cntL mcnt l)) ∧ Ext w w' := by
  obtain ⟨a, cap, rfl, h1, h2, hc⟩ := slice_open (R := msgC) (by decide) h
  clear h
  have hml := mkL_len mcnt mmk q l
  rw [hml] at h1 hc ⊢
  clear hml
  go_enter Try.func81, Try.ntmps81
  go_wp2
  go_loopw [1, 5] (fun u i wr => ∃ k : Nat, k ≤ l.length ∧ i = .int .i64 k ∧ u = .int .i64 (q + cntL mcnt (l.take k)) ∧ Ext w wr) (fun _ i _ => l.length - (intOf i).toNat)
  case atStart => exact ⟨0, Nat.zero_le _, rfl, valI (by simp [cntL]), Ext.refl _⟩
  case round =>
    obtain ⟨k, hk, rfl, rfl, hE⟩ := hrel
    by_cases hlt : k < l.length
    · obtain ⟨b, off, x, c, rfl, hx, hv, hcell⟩ := hc k hlt
      clear hc
      have hx' := hx.out
      rw [mkL_get mcnt mmk q l k hlt] at hx'
      have hx2 := Option.some.inj hx'
      subst hx2
      clear hx hx'
      obtain ⟨y, rfl, hvy⟩ := msg_V.1 hv
      have hcs : q + cntL mcnt (l.take k) + mcnt l[k] ≤ 4611686018427387904 := by
        have := cntL_take_le mcnt l k hlt; omega
      have hcn := Lib.hid (cntL_snoc mcnt (l.take k) l[k])
      have htk := Lib.hid (List.take_append_getElem hlt)
      have hc0 : wr.cell? ⟨b, off + k * 3, none⟩ = some (.int .i64 (q + cntL mcnt (l.take k))) := cell_ext (hcell 0 _ rfl) hE
      have hc1 : wr.cell? ⟨b, off + k * 3 + 1, none⟩ = some (.int .i64 (q + cntL mcnt (l.take k) + 1)) := cell_ext (hcell 1 _ rfl) hE
      have hc2 : wr.cell? ⟨b, off + k * 3 + 2, none⟩ = some y := cell_ext (hcell 2 _ rfl) hE
      have HV := Lib.hid (rowC.vext hvy hE)
      clear hcell hv hvy
      generalize hX : l[k] = z at *
      generalize hA : cntL mcnt (l.take k) = A at *
      clear hA hX
      have hz1 : mcnt z = 2 + rcnt z.2.2 := rfl
      have Hz := Lib.hid hz1
      have hz2 : (mcnt z : Int) = 2 + rcnt z.2.2 := by rw [hz1]; push_cast; rfl
      have Hz2 := Lib.hid hz2
      rw [hz2] at hcs
      clear hz1 hz2
      go_wp2_with fail
      refine (heldInt64S_e _ z.2.2 _ _ HV.out (by omega) (by omega)).mono ?_
      rintro e w2 ⟨rfl, hE2⟩
      have hE3 := hE.trans hE2
      clear hE hE2
      go_wp2
      go_roundw
      case rel => exact ⟨k + 1, by omega, by go_num, by rw [← htk.out, hcn.out]; exact valI (by push_cast; rw [Hz2.out]; omega), hE3⟩
      case measure => simp [intOf]; omega
    · have he : k = l.length := by omega
      have He := Lib.hid he; clear he
      go_wp2
      go_ret
      exact ⟨retI (by rw [He.out, List.take_length]), hE⟩

set_option maxRecDepth 20000 in
set_option maxHeartbeats 1600000 in
set_option maxRecDepth 20000 in
theorem eqMsgS_c (v1 v2 : Value) (l m : List MsgD) (w : World) (h : msgsC.V w [v1] l) (hm : msgsC.V w [v2] m) :
    Calls Try.prog 63 #[v1, v2] w fun e w' => e = .returned (.bool (decide (l = m))) ∧ Ext w w' := by
  obtain ⟨a, cap, rfl, h1, h2, hc⟩ := slice_open (R := msgC) (by decide) h
  obtain ⟨a', cap', rfl, h1', h2', hc'⟩ := slice_open (R := msgC) (by decide) hm
  clear h hm
  by_cases hl : l.length = m.length
  · have hl' : ((l.length : Int) != (m.length : Int)) = false := by rw [bne_eq_false_iff_eq]; omega
    have Hl := Lib.hid hl; clear hl
    go_enter Try.func63, Try.ntmps63
    go_wp2
    go_loopw [5] (fun i wr => ∃ k : Nat, k ≤ l.length ∧ i = .int .i64 k ∧ Hid (l.take k = m.take k) ∧ Ext w wr) (fun i _ => l.length - (intOf i).toNat)
    case atStart => exact ⟨0, Nat.zero_le _, rfl, rfl, Ext.refl _⟩
    case round =>
      obtain ⟨k, hk, rfl, hp, hE⟩ := hrel
      by_cases hlt : k < l.length
      · obtain ⟨b, off, x, c, rfl, hx, hv, hcell⟩ := hc k hlt
        obtain ⟨b', off', y, c', rfl, hy, hv', hcell'⟩ := hc' k (by rw [← Hl.out]; exact hlt)
        clear hc hc'
        have HV := Lib.hid (And.intro (msgC.vext hv hE) (msgC.vext hv' hE))
        obtain ⟨u, rfl, _⟩ := msg_V.1 hv
        obtain ⟨u', rfl, _⟩ := msg_V.1 hv'
        have hc0 : wr.cell? ⟨b, off + k * 3, none⟩ = some (.int .i64 x.1) := cell_ext (hcell 0 _ rfl) hE
        have hc1 : wr.cell? ⟨b, off + k * 3 + 1, none⟩ = some (.int .i64 x.2.1) := cell_ext (hcell 1 _ rfl) hE
        have hc2 : wr.cell? ⟨b, off + k * 3 + 2, none⟩ = some u := cell_ext (hcell 2 _ rfl) hE
        have hd0 : wr.cell? ⟨b', off' + k * 3, none⟩ = some (.int .i64 y.1) := cell_ext (hcell' 0 _ rfl) hE
        have hd1 : wr.cell? ⟨b', off' + k * 3 + 1, none⟩ = some (.int .i64 y.2.1) := cell_ext (hcell' 1 _ rfl) hE
        have hd2 : wr.cell? ⟨b', off' + k * 3 + 2, none⟩ = some u' := cell_ext (hcell' 2 _ rfl) hE
        clear hcell hcell' hv hv'
        have hi1 : (0 : Int) ≤ k := by omega
        have hi2 : (k : Int) < l.length := by omega
        have hi3 : (k : Int) < m.length := by have := Hl.out; omega
        by_cases hxy : x = y
        · have hd : decide (x = y) = true := by simp [hxy]
          have Hxy := Lib.hid (And.intro hxy hd); clear hxy hd
          go_wp2
          go_still_tail 8, (by kernel_rfl)
          change wpList _ _ _ _ _ wr.drew
          go_wp2_with fail
          refine (eqMsg_c _ _ x y _ (msgC.vext HV.out.1 (Ext.drew _)) (msgC.vext HV.out.2 (Ext.drew _))).mono ?_
          rw [Hxy.out.2]
          rintro e w1 ⟨rfl, hE1⟩
          go_wp2
          go_roundw
          case rel => exact ⟨k + 1, by omega, by go_num, Lib.hid (by rw [take_snoc hx, take_snoc hy, hp.out, Hxy.out.1]), hE.trans ((Ext.drew _).trans hE1)⟩
          case measure => simp [intOf]; omega
        · have hd : decide (x = y) = false := by simp [hxy]
          have Hxy := Lib.hid (And.intro hxy hd); clear hxy hd
          go_wp2
          go_still_tail 8, (by kernel_rfl)
          change wpList _ _ _ _ _ wr.drew
          go_wp2_with fail
          refine (eqMsg_c _ _ x y _ (msgC.vext HV.out.1 (Ext.drew _)) (msgC.vext HV.out.2 (Ext.drew _))).mono ?_
          rw [Hxy.out.2]
          rintro e w1 ⟨rfl, hE1⟩
          go_wp2
          go_ret
          exact ⟨retB (by symm; rw [decide_eq_false_iff_not]; rintro rfl; exact Hxy.out.1 (Option.some.inj (hx.out.symm.trans hy.out))), hE.trans ((Ext.drew _).trans hE1)⟩
      · have he : k = l.length := by omega
        have He := Lib.hid he; clear he
        go_wp2
        go_ret
        exact ⟨retB (by symm; rw [decide_eq_true_iff]; exact take_all hp.out He.out Hl.out), hE⟩
  · have hl' : ((l.length : Int) != (m.length : Int)) = true := by rw [bne_iff_ne]; omega
    go_enter Try.func63, Try.ntmps63
    go_wp2
    go_ret
    exact ⟨retB (by symm; rw [decide_eq_false_iff_not]; intro e; exact hl (by rw [e])), Ext.refl _⟩

set_option maxHeartbeats 1600000 in
theorem markMsgS_c_o (v : Value) (l : List MsgD) (q : Int) (w : World) (fp : List Nat) (h : msgsC.O w [v] l fp) (hn : fp.Nodup) (hq0 : 0 ≤ q) (hq : q + cntL mcnt l ≤ 4611686018427387904) :
    Calls Try.prog 73 #[v, .int .i64 q] w fun e w' => e = .returned (.int .i64 (q + cntL mcnt l)) ∧ ChgF fp w w' ∧ msgsC.O w' [v] (mkL mcnt mmk q l) fp := by
  obtain ⟨a, cap, rfl, h1, h2, _⟩ := slice_open (R := msgC) (by decide) (msgsC.view h)
  have Hn := Lib.hid hn; clear hn
  go_enter Try.func73, Try.ntmps73
  go_wp2
  go_loopw [1, 5] (fun u i wr => ∃ k : Nat, k ≤ l.length ∧ i = .int .i64 k ∧ u = .int .i64 (q + cntL mcnt (l.take k)) ∧ Hid (msgsC.O wr [.slice a l.length cap] (mkL mcnt mmk q (l.take k) ++ l.drop k) fp) ∧ ChgF fp w wr) (fun _ i _ => l.length - (intOf i).toNat)
  case atStart => exact ⟨0, Nat.zero_le _, rfl, valI (by simp [cntL]), by simpa [mkL, Hid] using h, ChgF.refl _ _⟩
  case round =>
    obtain ⟨k, hk, rfl, rfl, hO, hC⟩ := hrel
    by_cases hlt : k < l.length
    · have hd : l.drop k = l[k] :: l.drop (k + 1) := List.drop_eq_getElem_cons hlt
      have hO' := hO.out
      rw [hd] at hO'
      have hlen : (mkL mcnt mmk q (l.take k)).length = k := by rw [mkL_len, List.length_take]; omega
      have hcs : q + cntL mcnt (l.take k) + mcnt l[k] ≤ 4611686018427387904 := by
        have := cntL_take_le mcnt l k hlt; omega
      have hsn := Lib.hid (mkL_snoc mcnt mmk q (l.take k) l[k])
      have hcn := Lib.hid (cntL_snoc mcnt (l.take k) l[k])
      have htk := Lib.hid (List.take_append_getElem hlt)
      generalize hX : l[k] = x at *
      generalize hA : cntL mcnt (l.take k) = A at *
      generalize hL1 : mkL mcnt mmk q (l.take k) = L1 at *
      generalize hL2 : l.drop (k + 1) = L2 at *
      obtain ⟨b, off, c, fx, rfl, hc, hnx, hsub, hbm, hbn, hcell, hfr, _, hst⟩ := slice_at (by decide) hO' Hn.out
      obtain ⟨u, rfl, hu⟩ := msg_O.1 hc
      have hst' := hst 0 (.int .i64 (q + A)) (q + A, x.2) (by simp) (fun w' h' => by
        obtain ⟨u', e, h''⟩ := msg_O.1 h'
        cases e
        exact msg_O.2 ⟨_, rfl, h''⟩)
      have hc0 := hcell 0 _ rfl
      rw [hlen, show off + k * msgC.n + 0 = off + k * 3 from rfl] at hc0 hst'
      have hf0 := hfr (off + k * 3)
      have hf1 := hfr (off + k * 3 + 1)
      obtain ⟨b1, off1, c1, fx1, e1, hcx1, hnx1, hsub1, _, _, hcell1, _, _, hst1⟩ := slice_at (by decide) hst' Hn.out
      cases e1
      obtain ⟨u1, rfl, hu1⟩ := msg_O.1 hcx1
      have hst2 := hst1 1 (.int .i64 (q + A + 1)) (q + A, q + A + 1, x.2.2) (by simp) (fun w' h' => by
        obtain ⟨u', e, h''⟩ := msg_O.1 h'
        cases e
        exact msg_O.2 ⟨_, rfl, h''⟩)
      have hc1 := hcell1 1 _ rfl
      rw [hlen, show off + k * msgC.n + 1 = off + k * 3 + 1 from rfl] at hc1 hst2
      obtain ⟨b', off', c', fx', e, hc', hnx', hsub', _, _, hcell', _, hmk', _⟩ := slice_at (by decide) hst2 Hn.out
      cases e
      obtain ⟨u', rfl, hu'⟩ := msg_O.1 hc'
      have hc2 := hcell' 2 _ rfl
      rw [hlen, show off + k * msgC.n + 2 = off + k * 3 + 2 from rfl] at hc2
      obtain ⟨a2, cap2, rfl, _⟩ := row_open (rowC.view hu')
      have HM := Lib.hid hmk'
      have Hc := Lib.hid hu'
      have Hnx := Lib.hid hnx'
      have HC1 := Lib.hid ((hC.trans ((ChgF.setCell wr ⟨b, off + k * 3, none⟩ (.int .i64 (q + A))).wide (fq := fp) (by intro i hi; rw [List.mem_singleton.1 hi]; exact hbm))).trans ((ChgF.setCell _ ⟨b, off + k * 3 + 1, none⟩ (.int .i64 (q + A + 1))).wide (fq := fp) (by intro i hi; rw [List.mem_singleton.1 hi]; exact hbm)))
      have Hs := Lib.hid hsub'
      have hz2 : (mcnt x : Int) = 2 + rcnt x.2.2 := by show ((2 + x.2.2.length : Nat) : Int) = 2 + (x.2.2.length : Int); omega
      have Hz2 := Lib.hid hz2
      rw [hz2] at hcs
      have HA := Lib.hid hA
      have HL2 := Lib.hid hL2
      clear hA hX hL1 hL2 hz2 hcell hfr hst hst' hst1 hst2 hcell1 hcell' hmk' hu' hnx' hsub' hC hO hO' hc hc' hcx1 hu hu1 hsub hsub1 hnx hnx1 hbm hbn hd hlen h
      go_wp2_with fail
      refine (markInt64S_o _ x.2.2 _ _ fx' Hc.out Hnx.out (by omega) (by omega)).mono ?_
      rintro e w2 ⟨rfl, hC2, hO2⟩
      have hO3 := Lib.hid (HM.out _ (q + A, q + A + 1, rmk (q + A + 1 + 1) x.2.2) hC2 (msg_O.2 ⟨_, rfl, hO2⟩))
      have hC3 := Lib.hid (HC1.out.trans (hC2.wide Hs.out))
      clear hC2 hO2
      go_wp2
      go_roundw
      case rel =>
        refine ⟨k + 1, by omega, by go_num, ?_, ?_, hC3.out⟩
        · rw [← htk.out, hcn.out]; exact valI (by push_cast; rw [Hz2.out]; omega)
        · rw [← htk.out, hsn.out, List.append_assoc, HL2.out]; exact hO3
      case measure => simp [intOf]; omega
    · have he : k = l.length := by omega
      have He := Lib.hid he; clear he
      have hO' := hO.out
      go_wp2
      go_ret
      have hk' := He.out
      subst hk'
      rw [List.take_length, List.drop_length, List.append_nil] at hO'
      exact ⟨retI (by rw [List.take_length]), hC, hO'⟩

end Go.Proofs.Ytkigfmkdbgcpeaa
