/- Waiting writes: how they read, and the laws' helpers on them. -/
import Derived.Test.YtbapomhoipdanaaRws
import Derived.StillTailTactics
set_option linter.unusedVariables false
set_option linter.unusedSimpArgs false
namespace Go.Sl
open Go.RowKit

theorem one_cell {cs : List Value} (h : cs.length = 1) : ∃ v, cs = [v] := List.length_eq_one_iff.1 h

def writeC : Cd (Int × List Int) := prodC intC rowC

theorem write_V {w : World} {cs : List Value} {m : Int × List Int} : writeC.V w cs m ↔ ∃ v, cs = [.int .i64 m.1, v] ∧ rowC.V w [v] m.2 := by
  constructor
  · rintro ⟨c, d, rfl, rfl, h⟩
    obtain ⟨v, rfl⟩ := one_cell (rowC.len h)
    exact ⟨v, rfl, h⟩
  · rintro ⟨v, rfl, h⟩
    exact ⟨[_], [v], rfl, rfl, h⟩

theorem write_O {w : World} {cs : List Value} {m : Int × List Int} {fp : List Nat} : writeC.O w cs m fp ↔ ∃ v, cs = [.int .i64 m.1, v] ∧ rowC.O w [v] m.2 fp := by
  constructor
  · rintro ⟨c, d, f, g, rfl, rfl, ⟨rfl, rfl⟩, h⟩
    obtain ⟨v, rfl⟩ := one_cell (rowC.len (rowC.view h))
    exact ⟨v, rfl, h⟩
  · rintro ⟨v, rfl, h⟩
    exact ⟨[_], [v], [], fp, rfl, rfl, ⟨rfl, rfl⟩, h⟩

theorem write_own {lo hi : Nat} {w : World} {cs : List Value} {m : Int × List Int} : writeC.own lo hi w cs m ↔ ∃ v, cs = [.int .i64 m.1, v] ∧ rowC.own lo hi w [v] m.2 := by
  constructor
  · rintro ⟨fp, h, hn, hb⟩
    obtain ⟨v, rfl, h'⟩ := write_O.1 h
    exact ⟨v, rfl, fp, h', hn, hb⟩
  · rintro ⟨v, rfl, fp, h, hn, hb⟩
    exact ⟨fp, write_O.2 ⟨v, rfl, h⟩, hn, hb⟩

end Go.Sl
namespace Go.Proofs.Ytbapomhoipdanaa
open Go.RowKit Go.Sl

abbrev WriteD := Int × List Int
abbrev waitC : Cd (List WriteD) := sliceC writeC
def wcnt (m : WriteD) : Nat := 1 + m.2.length
def wmk (q : Int) (m : WriteD) : WriteD := (q, iota (q + 1) m.2.length)
/-- What a write takes of the bound: its row. -/
def wsz (m : WriteD) : Nat := m.2.length

set_option maxHeartbeats 400000 in
theorem szWrite_c (cs : List Value) (m : WriteD) (q : Int) (w : World) (h0' : writeC.V w cs m) (h0 : -1 ≤ q) (h1 : q ≤ 1048576) :
    Calls Try.prog 106 #[.agg cs.toArray, .int .i64 q] w fun e w' => e = .returned (.int .i64 (szI (wsz m) q)) ∧ Ext w w' := by
  obtain ⟨v, rfl, h⟩ := write_V.1 h0'
  obtain ⟨f, l⟩ := m
  simp only at h
  have H := Lib.hid h; clear h h0'
  have hws : wsz (f, l) = l.length := rfl
  rw [hws]; clear hws
  go_enter Try.func106, Try.ntmps106
  by_cases hn : q - l.length < 0
  · have hs : szI l.length q = -1 := by simp [szI, hn]
    rw [hs]; have Hs := Lib.hid hs; clear hs
    go_wp2_with (go_at_call 105; refine (szInt64S_c _ l _ _ (rowC.vext H.out (Ext.alloc _ _)) (by omega) (by omega)).mono ?_; rw [Hs.out]; rintro e w' ⟨rfl, rfl⟩)
    go_ret
    exact ⟨rfl, Ext.alloc _ _⟩
  · have hs : szI l.length q = q - l.length := by simp [szI, hn]
    rw [hs]; have Hs := Lib.hid hs; clear hs
    go_wp2_with (go_at_call 105; refine (szInt64S_c _ l _ _ (rowC.vext H.out (Ext.alloc _ _)) (by omega) (by omega)).mono ?_; rw [Hs.out]; rintro e w' ⟨rfl, rfl⟩)
    go_ret
    exact ⟨rfl, Ext.alloc _ _⟩

set_option maxHeartbeats 400000 in
theorem toWrite_c (cs : List Value) (m : WriteD) (w : World) (h0 : writeC.V w cs m) (hs : wsz m ≤ 2097152) :
    Calls Try.prog 107 #[.agg cs.toArray] w fun e w' => ∃ v, e = .returned (.agg #[.int .i64 m.1, v]) ∧ Ext w w' ∧ writeC.own w.heap.size w'.heap.size w' [.int .i64 m.1, v] m := by
  obtain ⟨v, rfl, h⟩ := write_V.1 h0
  obtain ⟨f, l⟩ := m
  have hs' : l.length ≤ 2097152 := hs
  simp only at h ⊢
  have H := Lib.hid h
  obtain ⟨a, cap, rfl, h1, h2, hc⟩ := row_open h
  clear h hc h0 hs
  go_enter Try.func107, Try.ntmps107
  go_wp2_with (go_at_call 26; refine (toInt64S_c _ l _ (rowC.vext H.out (by repeat (first | with_reducible exact Ext.refl _ | with_reducible assumption | with_reducible refine Ext.pAlloc ?_ _ | ((with_reducible refine Ext.pSet ?_ ?_ _); rotate_left; (simp <;> omega)) | with_reducible refine Ext.pDrew ?_ | with_reducible refine Ext.pDrewN ?_ _ | with_reducible refine Ext.trans ?_ (by with_reducible assumption)))) hs').mono ?_; rintro e w1 ⟨v', rfl, hE, hO⟩; obtain ⟨a', cap', rfl, hh⟩ := row_take hO; clear hh; have HO := Lib.hid hO; clear hO; obtain ⟨hc, hf, hz⟩ := hE.rules)
  refine bodyPost_ret (v := .agg #[.int .i64 f, .slice a' l.length cap']) (by simp [results, Try.results107, go_sem, hc]) rfl ⟨_, rfl, ?_, ?_⟩
  · repeat (first | with_reducible exact Ext.refl _ | with_reducible assumption | with_reducible refine Ext.pAlloc ?_ _ | ((with_reducible refine Ext.pSet ?_ ?_ _); rotate_left; (simp <;> omega)) | with_reducible refine Ext.pDrew ?_ | with_reducible refine Ext.pDrewN ?_ _ | with_reducible refine Ext.trans ?_ (by with_reducible assumption))
  · refine write_own.2 ⟨_, rfl, ?_⟩
    refine Cd.own.wide (lo := w.heap.size + 3) (hi := w1.heap.size) ?_ (by omega) (by simp)
    repeat (refine own_set ?_ (by simp <;> omega) _)
    exact HO.out.wide (by simp) (Nat.le_refl _)

set_option maxHeartbeats 400000 in
theorem eqWrite_c (cs ds : List Value) (m n : WriteD) (w : World) (h0 : writeC.V w cs m) (h0' : writeC.V w ds n) :
    Calls Try.prog 108 #[.agg cs.toArray, .agg ds.toArray] w fun e w' => e = .returned (.bool (decide (m = n))) ∧ Ext w w' := by
  obtain ⟨v1, rfl, h⟩ := write_V.1 h0
  obtain ⟨v2, rfl, h'⟩ := write_V.1 h0'
  clear h0 h0'
  obtain ⟨f, l⟩ := m
  obtain ⟨f', l'⟩ := n
  simp only at h h' ⊢
  have H := Lib.hid (And.intro h h')
  obtain ⟨a, cap, rfl, h1, h2, hc⟩ := row_open h
  obtain ⟨a', cap', rfl, h1', h2', hc'⟩ := row_open h'
  clear h h' hc hc'
  by_cases hf : f = f'
  · have hn : (f != f') = false := by rw [bne_eq_false_iff_eq]; exact hf
    have Hf := Lib.hid hf; clear hf
    cases hl : decide (l = l')
    all_goals
      go_enter Try.func108, Try.ntmps108
      go_wp2_with (go_at_call 28; refine (eqInt64S_c _ _ l l' _ (rowC.vext H.out.1 (by repeat (first | with_reducible exact Ext.refl _ | with_reducible assumption | with_reducible refine Ext.pAlloc ?_ _ | ((with_reducible refine Ext.pSet ?_ ?_ _); rotate_left; (simp <;> omega)) | with_reducible refine Ext.pDrew ?_ | with_reducible refine Ext.pDrewN ?_ _ | with_reducible refine Ext.trans ?_ (by with_reducible assumption)))) (rowC.vext H.out.2 (by repeat (first | with_reducible exact Ext.refl _ | with_reducible assumption | with_reducible refine Ext.pAlloc ?_ _ | ((with_reducible refine Ext.pSet ?_ ?_ _); rotate_left; (simp <;> omega)) | with_reducible refine Ext.pDrew ?_ | with_reducible refine Ext.pDrewN ?_ _ | with_reducible refine Ext.trans ?_ (by with_reducible assumption))))).mono ?_; rw [hl]; rintro e w1 ⟨rfl, hE⟩)
      go_ret
      exact ⟨retB (by have := Hf.out; simp_all), by repeat (first | with_reducible exact Ext.refl _ | with_reducible assumption | with_reducible refine Ext.pAlloc ?_ _ | ((with_reducible refine Ext.pSet ?_ ?_ _); rotate_left; (simp <;> omega)) | with_reducible refine Ext.pDrew ?_ | with_reducible refine Ext.pDrewN ?_ _ | with_reducible refine Ext.trans ?_ (by with_reducible assumption))⟩
  · have hn : (f != f') = true := by rw [bne_iff_ne]; exact hf
    have Hf := Lib.hid hf; clear hf
    go_enter Try.func108, Try.ntmps108
    go_wp2
    go_ret
    exact ⟨retB (by simp [Hf.out]), by repeat (first | with_reducible exact Ext.refl _ | with_reducible assumption | with_reducible refine Ext.pAlloc ?_ _ | ((with_reducible refine Ext.pSet ?_ ?_ _); rotate_left; (simp <;> omega)) | with_reducible refine Ext.pDrew ?_ | with_reducible refine Ext.pDrewN ?_ _ | with_reducible refine Ext.trans ?_ (by with_reducible assumption))⟩

set_option maxHeartbeats 800000 in
theorem szWriteS_c (v : Value) (l : List WriteD) (q : Int) (w : World) (h : waitC.V w [v] l) (h0 : -1 ≤ q) (h1 : q ≤ 1048576) :
    Calls Try.prog 82 #[v, .int .i64 q] w fun e w' => e = .returned (.int .i64 (szI (l.length + cntL wsz l) q)) ∧ Ext w w' := by
  obtain ⟨a, cap, rfl, h1', h2, hc⟩ := slice_open (R := writeC) (by decide) h
  clear h
  by_cases hn : q - l.length < 0
  · have hs : szI (l.length + cntL wsz l) q = -1 := by unfold szI; rw [if_pos (by push_cast; omega)]
    rw [hs]; have Hs := Lib.hid hs; clear hs hc
    go_enter Try.func82, Try.ntmps82
    go_wp2
    go_ret
    exact ⟨rfl, Ext.refl _⟩
  · go_enter Try.func82, Try.ntmps82
    go_wp2
    go_loopw [1, 5] (fun u i wr => ∃ (k : Nat) (A : Nat), k ≤ l.length ∧ i = .int .i64 k ∧ u = .int .i64 (q - l.length - A) ∧ A = cntL wsz (l.take k) ∧ 0 ≤ q - l.length - A ∧ Ext w wr) (fun _ i _ => l.length - (intOf i).toNat)
    case atStart => exact ⟨0, 0, Nat.zero_le _, rfl, valI (by omega), by simp [cntL], by omega, Ext.refl _⟩
    case round =>
      obtain ⟨k, A, hk, rfl, rfl, hA, hpos, hE⟩ := hrel
      have HA := Lib.hid hA; clear hA
      by_cases hlt : k < l.length
      · obtain ⟨b, off, x, c, rfl, hx, hv, hcell⟩ := hc k hlt
        clear hc
        have hcn := Lib.hid (cntL_snoc wsz (l.take k) x)
        have hle := cntL_take_le wsz l k hlt
        rw [show l[k] = x from Option.some.inj ((List.getElem?_eq_getElem hlt).symm.trans hx.out), ← HA.out] at hle
        have htk := take_snoc hx
        have Htk := Lib.hid htk; clear htk
        have HV := Lib.hid (writeC.vext hv hE)
        obtain ⟨y, rfl, _⟩ := write_V.1 hv
        clear hv
        have hc0 : wr.cell? ⟨b, off + k * 2, none⟩ = some (.int .i64 x.1) := cell_ext (hcell 0 _ rfl) hE
        have hc1 : wr.cell? ⟨b, off + k * 2 + 1, none⟩ = some y := cell_ext (hcell 1 _ rfl) hE
        clear hcell
        by_cases hneg : q - l.length - A - wsz x < 0
        · have hs : szI (l.length + cntL wsz l) q = -1 := by unfold szI; rw [if_pos (by push_cast; omega)]
          have Hs := Lib.hid hs; clear hs
          have hr : szI (wsz x) (q - l.length - A) = -1 := by simp [szI, hneg]
          have Hr := Lib.hid hr; clear hr
          go_wp2_with fail
          refine (szWrite_c _ x _ _ HV.out (by omega) (by omega)).mono ?_
          rw [Hr.out]
          rintro e w2 ⟨rfl, hE2⟩
          have hE3 := hE.trans hE2
          clear hE hE2
          go_wp2
          go_ret
          exact ⟨retI Hs.out.symm, hE3⟩
        · have hr : szI (wsz x) (q - l.length - A) = q - l.length - A - wsz x := by simp [szI, hneg]
          have Hr := Lib.hid hr; clear hr
          go_wp2_with fail
          refine (szWrite_c _ x _ _ HV.out (by omega) (by omega)).mono ?_
          rw [Hr.out]
          rintro e w2 ⟨rfl, hE2⟩
          have hE3 := hE.trans hE2
          clear hE hE2
          go_wp2
          go_roundw
          case rel => exact ⟨k + 1, A + wsz x, by omega, by go_num, valI (by push_cast; omega), by rw [Htk.out, hcn.out, HA.out], by push_cast; omega, hE3⟩
          case measure => simp [intOf]; omega
      · have he : k = l.length := by omega
        have He := Lib.hid he; clear he
        go_wp2
        go_ret
        refine ⟨retI ?_, hE⟩
        have := HA.out
        rw [He.out, List.take_length] at this
        rw [← this]
        unfold szI
        rw [if_neg (by push_cast; omega)]
        push_cast; omega

set_option maxHeartbeats 800000 in
theorem toWriteS_c (v : Value) (l : List WriteD) (w : World) (h : waitC.V w [v] l) (hs : l.length ≤ 2097152 ∧ ∀ x ∈ l, wsz x ≤ 2097152) :
    Calls Try.prog 84 #[v] w fun e w' => ∃ v', e = .returned v' ∧ Ext w w' ∧ waitC.own w.heap.size w'.heap.size w' [v'] l := by
  obtain ⟨a, cap, rfl, h1, h2, hc⟩ := slice_open (R := writeC) (by decide) h
  clear h
  have hinf : (Try.prog.info? 59).map (fun i => (i.zero, i.size, i.bytes)) = some (some (.agg #[.int .i64 0, .slice none 0 0]), 2, 32) := by kernel_rfl
  have Hinf := Lib.hid hinf; clear hinf
  have Hs := Lib.hid hs.2
  have hs1 := hs.1
  clear hs
  go_enter Try.func84, Try.ntmps84
  go_wp2_with (at_make; refine wpList_make_sl _ rfl _ _ _ rfl 59 Try.underlying30 _ 2 32 Hinf.out l.length rfl rfl ?b ?b2 ?_)
  case b => omega
  case b2 => omega
  intro w1 zs hsl hzl hzz hE hz
  have hF0 : Filled writeC w1 w.heap.size l.length [] := Filled.start hsl hzl
  clear hsl hzl hzz
  go_wp2
  go_loopw [4] (fun i wr => ∃ k : Nat, k ≤ l.length ∧ i = .int .i64 k ∧ Hid (Filled writeC wr w.heap.size l.length (l.take k)) ∧ Ext w wr ∧ w.heap.size < wr.heap.size) (fun i _ => l.length - (intOf i).toNat)
  case atStart => exact ⟨0, Nat.zero_le _, rfl, by simpa [Hid] using hF0, hE, hz⟩
  case round =>
    clear hE hF0 hz
    obtain ⟨k, hk, rfl, hF, hE, hz⟩ := hrel
    by_cases hlt : k < l.length
    · obtain ⟨b, off, x, c, rfl, hx, hv, hcell⟩ := hc k hlt
      clear hc
      have HV := Lib.hid (writeC.vext hv hE)
      obtain ⟨y, rfl, hvy⟩ := write_V.1 hv
      have hc0 : wr.cell? ⟨b, off + k * 2, none⟩ = some (.int .i64 x.1) := cell_ext (hcell 0 _ rfl) hE
      have hc1 : wr.cell? ⟨b, off + k * 2 + 1, none⟩ = some y := cell_ext (hcell 1 _ rfl) hE
      obtain ⟨ya, yc, rfl⟩ := u_slice hvy
      have hsm := Hs.out x (List.mem_of_getElem? hx.out)
      clear hcell hv hvy
      go_wp2_with fail
      refine (toWrite_c _ x _ HV.out hsm).mono ?_
      rintro e w2 ⟨u', rfl, hE2, hO⟩
      have hlk : (l.take k).length = k := by rw [List.length_take]; omega
      have hF2 := hF.out.ext hE2
      obtain ⟨⟨y0, hy0⟩, hfz0⟩ := hF2.room (by omega) 0 (by decide)
      obtain ⟨⟨y1, hy1⟩, hfz1⟩ := hF2.room (by omega) 1 (by decide)
      rw [hlk] at hy0 hfz0 hy1 hfz1
      have hy0' : w2.cell? ⟨w.heap.size, k * 2, none⟩ = some y0 := hy0
      have hy1' : w2.cell? ⟨w.heap.size, k * 2 + 1, none⟩ = some y1 := hy1
      have hf0' : w2.frozen? ⟨w.heap.size, k * 2, none⟩ = false := hfz0
      have hf1' : w2.frozen? ⟨w.heap.size, k * 2 + 1, none⟩ = false := hfz1
      have hn := Filled.next hF2 (by omega) hO hz ⟨wr, hF.out, hE2, Nat.le_refl _⟩
      rw [hlk] at hn
      have HN : Hid (Filled writeC ((w2.setCell ⟨w.heap.size, k * 2, none⟩ (.int .i64 x.1)).setCell ⟨w.heap.size, k * 2 + 1, none⟩ u') w.heap.size l.length (l.take (k + 1))) := by rw [take_snoc hx]; exact hn
      have hE3 := hE.trans hE2
      have hz2 := hE2.size
      obtain ⟨v2, hv2, hO2⟩ := write_own.1 hO
      simp only [List.cons.injEq, true_and, and_true] at hv2
      subst hv2
      have HO := Lib.hid hO2.view
      obtain ⟨a2, c2, rfl⟩ := u_slice HO.out
      clear hn hF2 hE2 hlk hO hsm hO2 hy0 hy1 hfz0 hfz1
      go_wp2
      go_roundw
      case rel => exact ⟨k + 1, by omega, by go_num, HN, Ext.pSet (Ext.pSet hE3 (Nat.le_refl _) _) (Nat.le_refl _) _, by simp [World.setCell]; omega⟩
      case measure => simp [intOf]; omega
    · have he : k = l.length := by omega
      have He := Lib.hid he; clear he
      go_wp2
      go_ret
      have hF' := hF.out
      rw [He.out, List.take_length] at hF'
      exact ⟨_, rfl, hE, Filled.done hF' rfl (Nat.le_refl _) (by omega)⟩

set_option maxHeartbeats 800000 in
theorem heldWriteS_c (v : Value) (l : List WriteD) (q : Int) (w : World) (h : waitC.V w [v] (mkL wcnt wmk q l)) (hq0 : 0 ≤ q) (hq : q + cntL wcnt l ≤ 4611686018427387904) :
    Calls Try.prog 96 #[v, .int .i64 q] w fun e w' => e = .returned (.int .i64 (q + cntL wcnt l)) ∧ Ext w w' := by
  obtain ⟨a, cap, rfl, h1, h2, hc⟩ := slice_open (R := writeC) (by decide) h
  clear h
  have hml := mkL_len wcnt wmk q l
  rw [hml] at h1 hc ⊢
  clear hml
  go_enter Try.func96, Try.ntmps96
  go_wp2
  go_loopw [1, 5] (fun u i wr => ∃ k : Nat, k ≤ l.length ∧ i = .int .i64 k ∧ u = .int .i64 (q + cntL wcnt (l.take k)) ∧ Ext w wr) (fun _ i _ => l.length - (intOf i).toNat)
  case atStart => exact ⟨0, Nat.zero_le _, rfl, valI (by simp [cntL]), Ext.refl _⟩
  case round =>
    obtain ⟨k, hk, rfl, rfl, hE⟩ := hrel
    by_cases hlt : k < l.length
    · obtain ⟨b, off, x, c, rfl, hx, hv, hcell⟩ := hc k hlt
      clear hc
      have hx' := hx.out
      rw [mkL_get wcnt wmk q l k hlt] at hx'
      have hx2 := Option.some.inj hx'
      subst hx2
      clear hx hx'
      obtain ⟨y, rfl, hvy⟩ := write_V.1 hv
      have hcs : q + cntL wcnt (l.take k) + wcnt l[k] ≤ 4611686018427387904 := by
        have := cntL_take_le wcnt l k hlt; omega
      have hcn := Lib.hid (cntL_snoc wcnt (l.take k) l[k])
      have htk := Lib.hid (List.take_append_getElem hlt)
      have hc0 : wr.cell? ⟨b, off + k * 2, none⟩ = some (.int .i64 (q + cntL wcnt (l.take k))) := cell_ext (hcell 0 _ rfl) hE
      have hc1 : wr.cell? ⟨b, off + k * 2 + 1, none⟩ = some y := cell_ext (hcell 1 _ rfl) hE
      have HV := Lib.hid (rowC.vext hvy hE)
      clear hcell hv hvy
      generalize hX : l[k] = z at *
      generalize hA : cntL wcnt (l.take k) = A at *
      clear hA hX
      have hz1 : wcnt z = 1 + rcnt z.2 := rfl
      have Hz := Lib.hid hz1
      have hz2 : (wcnt z : Int) = 1 + rcnt z.2 := by rw [hz1]; push_cast; rfl
      have Hz2 := Lib.hid hz2
      rw [hz2] at hcs
      clear hz1 hz2
      go_wp2_with fail
      refine (heldInt64S_e _ z.2 _ _ HV.out (by omega) (by omega)).mono ?_
      rintro e w2 ⟨rfl, hE2⟩
      have hE3 := hE.trans hE2
      clear hE hE2
      go_wp2
      go_roundw
      case rel => exact ⟨k + 1, by omega, by go_num, by rw [← htk.out, hcn.out]; exact valI (by push_cast; rw [Hz2.out]; omega), hE3⟩
      case measure => simp [intOf]; omega
    · have he : k = l.length := by omega
      have He := Lib.hid he; clear he
      go_wp2
      go_ret
      exact ⟨retI (by rw [He.out, List.take_length]), hE⟩

set_option maxRecDepth 20000 in
set_option maxHeartbeats 1600000 in
set_option maxRecDepth 20000 in
theorem eqWriteS_c (v1 v2 : Value) (l m : List WriteD) (w : World) (h : waitC.V w [v1] l) (hm : waitC.V w [v2] m) :
    Calls Try.prog 86 #[v1, v2] w fun e w' => e = .returned (.bool (decide (l = m))) ∧ Ext w w' := by
  obtain ⟨a, cap, rfl, h1, h2, hc⟩ := slice_open (R := writeC) (by decide) h
  obtain ⟨a', cap', rfl, h1', h2', hc'⟩ := slice_open (R := writeC) (by decide) hm
  clear h hm
  by_cases hl : l.length = m.length
  · have hl' : ((l.length : Int) != (m.length : Int)) = false := by rw [bne_eq_false_iff_eq]; omega
    have Hl := Lib.hid hl; clear hl
    go_enter Try.func86, Try.ntmps86
    go_wp2
    go_loopw [5] (fun i wr => ∃ k : Nat, k ≤ l.length ∧ i = .int .i64 k ∧ Hid (l.take k = m.take k) ∧ Ext w wr) (fun i _ => l.length - (intOf i).toNat)
    case atStart => exact ⟨0, Nat.zero_le _, rfl, rfl, Ext.refl _⟩
    case round =>
      obtain ⟨k, hk, rfl, hp, hE⟩ := hrel
      by_cases hlt : k < l.length
      · obtain ⟨b, off, x, c, rfl, hx, hv, hcell⟩ := hc k hlt
        obtain ⟨b', off', y, c', rfl, hy, hv', hcell'⟩ := hc' k (by rw [← Hl.out]; exact hlt)
        clear hc hc'
        have HV := Lib.hid (And.intro (writeC.vext hv hE) (writeC.vext hv' hE))
        obtain ⟨u, rfl, _⟩ := write_V.1 hv
        obtain ⟨u', rfl, _⟩ := write_V.1 hv'
        have hc0 : wr.cell? ⟨b, off + k * 2, none⟩ = some (.int .i64 x.1) := cell_ext (hcell 0 _ rfl) hE
        have hc1 : wr.cell? ⟨b, off + k * 2 + 1, none⟩ = some u := cell_ext (hcell 1 _ rfl) hE
        have hd0 : wr.cell? ⟨b', off' + k * 2, none⟩ = some (.int .i64 y.1) := cell_ext (hcell' 0 _ rfl) hE
        have hd1 : wr.cell? ⟨b', off' + k * 2 + 1, none⟩ = some u' := cell_ext (hcell' 1 _ rfl) hE
        clear hcell hcell' hv hv'
        have hi1 : (0 : Int) ≤ k := by omega
        have hi2 : (k : Int) < l.length := by omega
        have hi3 : (k : Int) < m.length := by have := Hl.out; omega
        by_cases hxy : x = y
        · have hd : decide (x = y) = true := by simp [hxy]
          have Hxy := Lib.hid (And.intro hxy hd); clear hxy hd
          go_wp2
          go_still_tail 8, (by kernel_rfl)
          change wpList _ _ _ _ _ wr.drew
          go_wp2_with fail
          refine (eqWrite_c _ _ x y _ (writeC.vext HV.out.1 (Ext.drew _)) (writeC.vext HV.out.2 (Ext.drew _))).mono ?_
          rw [Hxy.out.2]
          rintro e w1 ⟨rfl, hE1⟩
          go_wp2
          go_roundw
          case rel => exact ⟨k + 1, by omega, by go_num, Lib.hid (by rw [take_snoc hx, take_snoc hy, hp.out, Hxy.out.1]), hE.trans ((Ext.drew _).trans hE1)⟩
          case measure => simp [intOf]; omega
        · have hd : decide (x = y) = false := by simp [hxy]
          have Hxy := Lib.hid (And.intro hxy hd); clear hxy hd
          go_wp2
          go_still_tail 8, (by kernel_rfl)
          change wpList _ _ _ _ _ wr.drew
          go_wp2_with fail
          refine (eqWrite_c _ _ x y _ (writeC.vext HV.out.1 (Ext.drew _)) (writeC.vext HV.out.2 (Ext.drew _))).mono ?_
          rw [Hxy.out.2]
          rintro e w1 ⟨rfl, hE1⟩
          go_wp2
          go_ret
          exact ⟨retB (by symm; rw [decide_eq_false_iff_not]; rintro rfl; exact Hxy.out.1 (Option.some.inj (hx.out.symm.trans hy.out))), hE.trans ((Ext.drew _).trans hE1)⟩
      · have he : k = l.length := by omega
        have He := Lib.hid he; clear he
        go_wp2
        go_ret
        exact ⟨retB (by symm; rw [decide_eq_true_iff]; exact take_all hp.out He.out Hl.out), hE⟩
  · have hl' : ((l.length : Int) != (m.length : Int)) = true := by rw [bne_iff_ne]; omega
    go_enter Try.func86, Try.ntmps86
    go_wp2
    go_ret
    exact ⟨retB (by symm; rw [decide_eq_false_iff_not]; intro e; exact hl (by rw [e])), Ext.refl _⟩


set_option maxHeartbeats 1600000 in
theorem markWriteS_c_o (v : Value) (l : List WriteD) (q : Int) (w : World) (fp : List Nat) (h : waitC.O w [v] l fp) (hn : fp.Nodup) (hq0 : 0 ≤ q) (hq : q + cntL wcnt l ≤ 4611686018427387904) :
    Calls Try.prog 94 #[v, .int .i64 q] w fun e w' => e = .returned (.int .i64 (q + cntL wcnt l)) ∧ ChgF fp w w' ∧ waitC.O w' [v] (mkL wcnt wmk q l) fp := by
  obtain ⟨a, cap, rfl, h1, h2, _⟩ := slice_open (R := writeC) (by decide) (waitC.view h)
  have Hn := Lib.hid hn; clear hn
  go_enter Try.func94, Try.ntmps94
  go_wp2
  go_loopw [1, 5] (fun u i wr => ∃ k : Nat, k ≤ l.length ∧ i = .int .i64 k ∧ u = .int .i64 (q + cntL wcnt (l.take k)) ∧ Hid (waitC.O wr [.slice a l.length cap] (mkL wcnt wmk q (l.take k) ++ l.drop k) fp) ∧ ChgF fp w wr) (fun _ i _ => l.length - (intOf i).toNat)
  case atStart => exact ⟨0, Nat.zero_le _, rfl, valI (by simp [cntL]), by simpa [mkL, Hid] using h, ChgF.refl _ _⟩
  case round =>
    obtain ⟨k, hk, rfl, rfl, hO, hC⟩ := hrel
    by_cases hlt : k < l.length
    · have hd : l.drop k = l[k] :: l.drop (k + 1) := List.drop_eq_getElem_cons hlt
      have hO' := hO.out
      rw [hd] at hO'
      have hlen : (mkL wcnt wmk q (l.take k)).length = k := by rw [mkL_len, List.length_take]; omega
      have hcs : q + cntL wcnt (l.take k) + wcnt l[k] ≤ 4611686018427387904 := by
        have := cntL_take_le wcnt l k hlt; omega
      have hsn := Lib.hid (mkL_snoc wcnt wmk q (l.take k) l[k])
      have hcn := Lib.hid (cntL_snoc wcnt (l.take k) l[k])
      have htk := Lib.hid (List.take_append_getElem hlt)
      generalize hX : l[k] = x at *
      generalize hA : cntL wcnt (l.take k) = A at *
      generalize hL1 : mkL wcnt wmk q (l.take k) = L1 at *
      generalize hL2 : l.drop (k + 1) = L2 at *
      obtain ⟨b, off, c, fx, rfl, hc, hnx, hsub, hbm, hbn, hcell, hfr, _, hst⟩ := slice_at (by decide) hO' Hn.out
      obtain ⟨u, rfl, hu⟩ := write_O.1 hc
      have hst' := hst 0 (.int .i64 (q + A)) (q + A, x.2) (by simp) (fun w' h' => by
        obtain ⟨u', e, h''⟩ := write_O.1 h'
        cases e
        exact write_O.2 ⟨_, rfl, h''⟩)
      have hc0 := hcell 0 _ rfl
      rw [hlen, show off + k * writeC.n + 0 = off + k * 2 from rfl] at hc0 hst'
      have hf0 := hfr (off + k * 2)
      obtain ⟨b', off', c', fx', e, hc', hnx', hsub', _, _, hcell', _, hmk', _⟩ := slice_at (by decide) hst' Hn.out
      cases e
      obtain ⟨u', rfl, hu'⟩ := write_O.1 hc'
      have hc1 := hcell' 1 _ rfl
      rw [hlen, show off + k * writeC.n + 1 = off + k * 2 + 1 from rfl] at hc1
      obtain ⟨a2, cap2, rfl, _⟩ := row_open (rowC.view hu')
      have HM := Lib.hid hmk'
      have Hc := Lib.hid hu'
      have Hnx := Lib.hid hnx'
      have HC1 := Lib.hid (hC.trans ((ChgF.setCell wr ⟨b, off + k * 2, none⟩ (.int .i64 (q + A))).wide (fq := fp) (by intro i hi; rw [List.mem_singleton.1 hi]; exact hbm)))
      have Hs := Lib.hid hsub'
      have hz2 : (wcnt x : Int) = 1 + rcnt x.2 := by show ((1 + x.2.length : Nat) : Int) = 1 + (x.2.length : Int); omega
      have Hz2 := Lib.hid hz2
      rw [hz2] at hcs
      have HA := Lib.hid hA
      have HL2 := Lib.hid hL2
      clear hA hX hL1 hL2 hz2 hcell hfr hst hst' hcell' hmk' hu' hnx' hsub' hC hO hO' hc hc' hu hsub hnx hbm hbn hd hlen h
      go_wp2_with fail
      refine (markInt64S_o _ x.2 _ _ fx' Hc.out Hnx.out (by omega) (by omega)).mono ?_
      rintro e w2 ⟨rfl, hC2, hO2⟩
      have hO3 := Lib.hid (HM.out _ (q + A, rmk (q + A + 1) x.2) hC2 (write_O.2 ⟨_, rfl, hO2⟩))
      have hC3 := Lib.hid (HC1.out.trans (hC2.wide Hs.out))
      clear hC2 hO2
      go_wp2
      go_roundw
      case rel =>
        refine ⟨k + 1, by omega, by go_num, ?_, ?_, hC3.out⟩
        · rw [← htk.out, hcn.out]; exact valI (by push_cast; rw [Hz2.out]; omega)
        · rw [← htk.out, hsn.out, List.append_assoc, HL2.out]; exact hO3
      case measure => simp [intOf]; omega
    · have he : k = l.length := by omega
      have He := Lib.hid he; clear he
      have hO' := hO.out
      go_wp2
      go_ret
      have hk' := He.out
      subst hk'
      rw [List.take_length, List.drop_length, List.append_nil] at hO'
      exact ⟨retI (by rw [List.take_length]), hC, hO'⟩

end Go.Proofs.Ytbapomhoipdanaa
