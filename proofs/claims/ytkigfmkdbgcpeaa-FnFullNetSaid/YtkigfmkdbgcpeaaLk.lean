/- Links: how they read, and the laws' helpers on them. -/
import Derived.Test.YtkigfmkdbgcpeaaMg
set_option linter.unusedVariables false
set_option linter.unusedSimpArgs false
namespace Go.Sl
open Go.RowKit

def linkC : Cd (Int × Int) := prodC intC intC

theorem link_V {w : World} {cs : List Value} {m : Int × Int} : linkC.V w cs m ↔ cs = [.int .i64 m.1, .int .i64 m.2] := by
  constructor
  · rintro ⟨c, d, rfl, rfl, rfl⟩; rfl
  · rintro rfl; exact ⟨[_], [_], rfl, rfl, rfl⟩

theorem link_O {w : World} {cs : List Value} {m : Int × Int} {fp : List Nat} : linkC.O w cs m fp ↔ cs = [.int .i64 m.1, .int .i64 m.2] ∧ fp = [] := by
  constructor
  · rintro ⟨c, d, f, g, rfl, rfl, ⟨rfl, rfl⟩, rfl, rfl⟩; exact ⟨rfl, rfl⟩
  · rintro ⟨rfl, rfl⟩; exact ⟨[_], [_], [], [], rfl, rfl, ⟨rfl, rfl⟩, rfl, rfl⟩

theorem link_own {lo hi : Nat} {w : World} {cs : List Value} {m : Int × Int} : linkC.own lo hi w cs m ↔ cs = [.int .i64 m.1, .int .i64 m.2] := by
  constructor
  · rintro ⟨fp, h, _, _⟩; exact (link_O.1 h).1
  · rintro rfl; exact ⟨[], link_O.2 ⟨rfl, rfl⟩, List.nodup_nil, by simp⟩

end Go.Sl
namespace Go.Proofs.Ytkigfmkdbgcpeaa
open Go.RowKit Go.Sl

abbrev LinkD := Int × Int
abbrev linksC : Cd (List LinkD) := sliceC linkC
def lcnt (m : LinkD) : Nat := 2
def lmk (q : Int) (m : LinkD) : LinkD := (q, q + 1)
theorem cntL_lcnt (l : List LinkD) : cntL lcnt l = 2 * l.length := by
  induction l with
  | nil => rfl
  | cons x l ih => simp only [cntL, ih, List.length_cons, lcnt]; omega

set_option maxHeartbeats 400000 in
theorem szLinkS_c (v : Value) (l : List LinkD) (q : Int) (w : World) (h : linksC.V w [v] l) (h0 : -1 ≤ q) (h1 : q ≤ 1048576) :
    Calls Try.prog 54 #[v, .int .i64 q] w fun e w' => e = .returned (.int .i64 (szI l.length q)) ∧ w = w' := by
  obtain ⟨a, cap, rfl, h1', h2, hc⟩ := slice_open (R := linkC) (by decide) h
  clear h hc
  go_enter Try.func54, Try.ntmps54
  by_cases hn : q - l.length < 0
  all_goals
    go_wp2
    go_ret
    exact ⟨retI (by simp [szI]; omega), rfl⟩

set_option maxHeartbeats 400000 in
theorem toLink_c (cs : List Value) (m : LinkD) (w : World) (h0 : linkC.V w cs m) :
    Calls Try.prog 93 #[.agg cs.toArray] w fun e w' => e = .returned (.agg #[.int .i64 m.1, .int .i64 m.2]) ∧ Ext w w' := by
  obtain rfl := link_V.1 h0
  clear h0
  obtain ⟨f, l⟩ := m
  go_enter Try.func93, Try.ntmps93
  go_wp2
  refine bodyPost_ret (v := .agg #[.int .i64 f, .int .i64 l]) (by simp [results, Try.results93, go_sem]) rfl ⟨rfl, ?_⟩
  repeat (first | with_reducible exact Ext.refl _ | with_reducible assumption | with_reducible refine Ext.pAlloc ?_ _ | ((with_reducible refine Ext.pSet ?_ ?_ _); rotate_left; (simp <;> omega)) | with_reducible refine Ext.pDrew ?_ | with_reducible refine Ext.pDrewN ?_ _ | with_reducible refine Ext.trans ?_ (by with_reducible assumption))

set_option maxHeartbeats 400000 in
theorem eqLink_c (cs ds : List Value) (m n : LinkD) (w : World) (h0 : linkC.V w cs m) (h0' : linkC.V w ds n) :
    Calls Try.prog 96 #[.agg cs.toArray, .agg ds.toArray] w fun e w' => e = .returned (.bool (decide (m = n))) ∧ Ext w w' := by
  obtain rfl := link_V.1 h0
  obtain rfl := link_V.1 h0'
  clear h0 h0'
  obtain ⟨f, l⟩ := m
  obtain ⟨f', l'⟩ := n
  by_cases hf : f = f'
  · have hn : (f != f') = false := by rw [bne_eq_false_iff_eq]; exact hf
    have Hf := Lib.hid hf; clear hf
    by_cases hl : l = l'
    · have hn2 : (l != l') = false := by rw [bne_eq_false_iff_eq]; exact hl
      have Hl := Lib.hid hl; clear hl
      go_enter Try.func96, Try.ntmps96
      go_wp2
      go_ret
      exact ⟨retB (by simp [Hf.out, Hl.out]), by repeat (first | with_reducible exact Ext.refl _ | with_reducible assumption | with_reducible refine Ext.pAlloc ?_ _ | ((with_reducible refine Ext.pSet ?_ ?_ _); rotate_left; (simp <;> omega)) | with_reducible refine Ext.pDrew ?_ | with_reducible refine Ext.pDrewN ?_ _ | with_reducible refine Ext.trans ?_ (by with_reducible assumption))⟩
    · have hn2 : (l != l') = true := by rw [bne_iff_ne]; exact hl
      have Hl := Lib.hid hl; clear hl
      go_enter Try.func96, Try.ntmps96
      go_wp2
      go_ret
      exact ⟨retB (by simp [Hl.out]), by repeat (first | with_reducible exact Ext.refl _ | with_reducible assumption | with_reducible refine Ext.pAlloc ?_ _ | ((with_reducible refine Ext.pSet ?_ ?_ _); rotate_left; (simp <;> omega)) | with_reducible refine Ext.pDrew ?_ | with_reducible refine Ext.pDrewN ?_ _ | with_reducible refine Ext.trans ?_ (by with_reducible assumption))⟩
  · have hn : (f != f') = true := by rw [bne_iff_ne]; exact hf
    have Hf := Lib.hid hf; clear hf
    go_enter Try.func96, Try.ntmps96
    go_wp2
    go_ret
    exact ⟨retB (by simp [Hf.out]), by repeat (first | with_reducible exact Ext.refl _ | with_reducible assumption | with_reducible refine Ext.pAlloc ?_ _ | ((with_reducible refine Ext.pSet ?_ ?_ _); rotate_left; (simp <;> omega)) | with_reducible refine Ext.pDrew ?_ | with_reducible refine Ext.pDrewN ?_ _ | with_reducible refine Ext.trans ?_ (by with_reducible assumption))⟩

set_option maxHeartbeats 800000 in
theorem toLinkS_c (v : Value) (l : List LinkD) (w : World) (h : linksC.V w [v] l) (hs : l.length ≤ 2097152) :
    Calls Try.prog 59 #[v] w fun e w' => ∃ v', e = .returned v' ∧ Ext w w' ∧ linksC.own w.heap.size w'.heap.size w' [v'] l := by
  obtain ⟨a, cap, rfl, h1, h2, hc⟩ := slice_open (R := linkC) (by decide) h
  clear h
  have hinf : (Try.prog.info? 70).map (fun i => (i.zero, i.size, i.bytes)) = some (some (.agg #[.int .i64 0, .int .i64 0]), 2, 16) := by kernel_rfl
  have Hinf := Lib.hid hinf; clear hinf
  have hs1 := hs
  clear hs
  go_enter Try.func59, Try.ntmps59
  go_wp2_with (at_make; refine wpList_make_sl _ rfl _ _ _ rfl 70 Try.underlying29 _ 2 16 Hinf.out l.length rfl rfl ?b ?b2 ?_)
  case b => omega
  case b2 => omega
  intro w1 zs hsl hzl hzz hE hz
  have hF0 : Filled linkC w1 w.heap.size l.length [] := Filled.start hsl hzl
  clear hsl hzl hzz
  go_wp2
  go_loopw [4] (fun i wr => ∃ k : Nat, k ≤ l.length ∧ i = .int .i64 k ∧ Hid (Filled linkC wr w.heap.size l.length (l.take k)) ∧ Ext w wr ∧ w.heap.size < wr.heap.size) (fun i _ => l.length - (intOf i).toNat)
  case atStart => exact ⟨0, Nat.zero_le _, rfl, by simpa [Hid] using hF0, hE, hz⟩
  case round =>
    clear hE hF0 hz
    obtain ⟨k, hk, rfl, hF, hE, hz⟩ := hrel
    by_cases hlt : k < l.length
    · obtain ⟨b, off, x, c, rfl, hx, hv, hcell⟩ := hc k hlt
      clear hc
      have HV := Lib.hid (linkC.vext hv hE)
      obtain rfl := link_V.1 hv
      have hc0 : wr.cell? ⟨b, off + k * 2, none⟩ = some (.int .i64 x.1) := cell_ext (hcell 0 _ rfl) hE
      have hc1 : wr.cell? ⟨b, off + k * 2 + 1, none⟩ = some (.int .i64 x.2) := cell_ext (hcell 1 _ rfl) hE
      clear hcell hv
      go_wp2_with fail
      refine (toLink_c _ x _ HV.out).mono ?_
      rintro e w2 ⟨rfl, hE2⟩
      have hO : linkC.own wr.heap.size w2.heap.size w2 [.int .i64 x.1, .int .i64 x.2] x := link_own.2 rfl
      have hlk : (l.take k).length = k := by rw [List.length_take]; omega
      have hF2 := hF.out.ext hE2
      obtain ⟨⟨y0, hy0⟩, hfz0⟩ := hF2.room (by omega) 0 (by decide)
      obtain ⟨⟨y1, hy1⟩, hfz1⟩ := hF2.room (by omega) 1 (by decide)
      rw [hlk] at hy0 hfz0 hy1 hfz1
      have hy0' : w2.cell? ⟨w.heap.size, k * 2, none⟩ = some y0 := hy0
      have hy1' : w2.cell? ⟨w.heap.size, k * 2 + 1, none⟩ = some y1 := hy1
      have hf0' : w2.frozen? ⟨w.heap.size, k * 2, none⟩ = false := hfz0
      have hf1' : w2.frozen? ⟨w.heap.size, k * 2 + 1, none⟩ = false := hfz1
      have hn := Filled.next hF2 (by omega) hO hz ⟨wr, hF.out, hE2, Nat.le_refl _⟩
      rw [hlk] at hn
      have HN : Hid (Filled linkC ((w2.setCell ⟨w.heap.size, k * 2, none⟩ (.int .i64 x.1)).setCell ⟨w.heap.size, k * 2 + 1, none⟩ (.int .i64 x.2)) w.heap.size l.length (l.take (k + 1))) := by rw [take_snoc hx]; exact hn
      have hE3 := hE.trans hE2
      have hz2 := hE2.size
      clear hn hF2 hE2 hlk hO hy0 hy1 hfz0 hfz1
      go_wp2
      go_roundw
      case rel => exact ⟨k + 1, by omega, by go_num, HN, Ext.pSet (Ext.pSet hE3 (Nat.le_refl _) _) (Nat.le_refl _) _, by simp [World.setCell]; omega⟩
      case measure => simp [intOf]; omega
    · have he : k = l.length := by omega
      have He := Lib.hid he; clear he
      go_wp2
      go_ret
      have hF' := hF.out
      rw [He.out, List.take_length] at hF'
      exact ⟨_, rfl, hE, Filled.done hF' rfl (Nat.le_refl _) (by omega)⟩

set_option maxHeartbeats 800000 in
theorem heldLinkS_c (v : Value) (l : List LinkD) (q : Int) (w : World) (h : linksC.V w [v] (mkL lcnt lmk q l)) (hq0 : 0 ≤ q) (hq : q + cntL lcnt l ≤ 4611686018427387904) :
    Calls Try.prog 82 #[v, .int .i64 q] w fun e w' => e = .returned (.int .i64 (q + cntL lcnt l)) ∧ Ext w w' := by
  obtain ⟨a, cap, rfl, h1, h2, hc⟩ := slice_open (R := linkC) (by decide) h
  clear h
  have hml := mkL_len lcnt lmk q l
  rw [hml] at h1 hc ⊢
  clear hml
  go_enter Try.func82, Try.ntmps82
  go_wp2
  go_loopw [1, 5] (fun u i wr => ∃ k : Nat, k ≤ l.length ∧ i = .int .i64 k ∧ u = .int .i64 (q + cntL lcnt (l.take k)) ∧ Ext w wr) (fun _ i _ => l.length - (intOf i).toNat)
  case atStart => exact ⟨0, Nat.zero_le _, rfl, valI (by simp [cntL]), Ext.refl _⟩
  case round =>
    obtain ⟨k, hk, rfl, rfl, hE⟩ := hrel
    by_cases hlt : k < l.length
    · obtain ⟨b, off, x, c, rfl, hx, hv, hcell⟩ := hc k hlt
      clear hc
      have hx' := hx.out
      rw [mkL_get lcnt lmk q l k hlt] at hx'
      have hx2 := Option.some.inj hx'
      subst hx2
      clear hx hx'
      obtain rfl := link_V.1 hv
      have hcs : q + cntL lcnt (l.take k) + lcnt l[k] ≤ 4611686018427387904 := by
        have := cntL_take_le lcnt l k hlt; omega
      have hcn := Lib.hid (cntL_snoc lcnt (l.take k) l[k])
      have htk := Lib.hid (List.take_append_getElem hlt)
      have hc0 : wr.cell? ⟨b, off + k * 2, none⟩ = some (.int .i64 (q + cntL lcnt (l.take k))) := cell_ext (hcell 0 _ rfl) hE
      have hc1 : wr.cell? ⟨b, off + k * 2 + 1, none⟩ = some (.int .i64 (q + cntL lcnt (l.take k) + 1)) := cell_ext (hcell 1 _ rfl) hE
      clear hcell hv
      generalize hX : l[k] = z at *
      generalize hA : cntL lcnt (l.take k) = A at *
      clear hA hX
      have hz2 : (lcnt z : Int) = 2 := rfl
      have Hz2 := Lib.hid hz2
      rw [hz2] at hcs
      clear hz2
      go_wp2
      go_roundw
      case rel => exact ⟨k + 1, by omega, by go_num, by rw [← htk.out, hcn.out]; exact valI (by push_cast; rw [Hz2.out]; omega), hE⟩
      case measure => simp [intOf]; omega
    · have he : k = l.length := by omega
      have He := Lib.hid he; clear he
      go_wp2
      go_ret
      exact ⟨retI (by rw [He.out, List.take_length]), hE⟩

set_option maxRecDepth 20000 in
set_option maxHeartbeats 1600000 in
set_option maxRecDepth 20000 in
theorem eqLinkS_c (v1 v2 : Value) (l m : List LinkD) (w : World) (h : linksC.V w [v1] l) (hm : linksC.V w [v2] m) :
    Calls Try.prog 64 #[v1, v2] w fun e w' => e = .returned (.bool (decide (l = m))) ∧ Ext w w' := by
  obtain ⟨a, cap, rfl, h1, h2, hc⟩ := slice_open (R := linkC) (by decide) h
  obtain ⟨a', cap', rfl, h1', h2', hc'⟩ := slice_open (R := linkC) (by decide) hm
  clear h hm
  by_cases hl : l.length = m.length
  · have hl' : ((l.length : Int) != (m.length : Int)) = false := by rw [bne_eq_false_iff_eq]; omega
    have Hl := Lib.hid hl; clear hl
    go_enter Try.func64, Try.ntmps64
    go_wp2
    go_loopw [5] (fun i wr => ∃ k : Nat, k ≤ l.length ∧ i = .int .i64 k ∧ Hid (l.take k = m.take k) ∧ Ext w wr) (fun i _ => l.length - (intOf i).toNat)
    case atStart => exact ⟨0, Nat.zero_le _, rfl, rfl, Ext.refl _⟩
    case round =>
      obtain ⟨k, hk, rfl, hp, hE⟩ := hrel
      by_cases hlt : k < l.length
      · obtain ⟨b, off, x, c, rfl, hx, hv, hcell⟩ := hc k hlt
        obtain ⟨b', off', y, c', rfl, hy, hv', hcell'⟩ := hc' k (by rw [← Hl.out]; exact hlt)
        clear hc hc'
        have HV := Lib.hid (And.intro (linkC.vext hv hE) (linkC.vext hv' hE))
        obtain rfl := link_V.1 hv
        obtain rfl := link_V.1 hv'
        have hc0 : wr.cell? ⟨b, off + k * 2, none⟩ = some (.int .i64 x.1) := cell_ext (hcell 0 _ rfl) hE
        have hc1 : wr.cell? ⟨b, off + k * 2 + 1, none⟩ = some (.int .i64 x.2) := cell_ext (hcell 1 _ rfl) hE
        have hd0 : wr.cell? ⟨b', off' + k * 2, none⟩ = some (.int .i64 y.1) := cell_ext (hcell' 0 _ rfl) hE
        have hd1 : wr.cell? ⟨b', off' + k * 2 + 1, none⟩ = some (.int .i64 y.2) := cell_ext (hcell' 1 _ rfl) hE
        clear hcell hcell' hv hv'
        have hi1 : (0 : Int) ≤ k := by omega
        have hi2 : (k : Int) < l.length := by omega
        have hi3 : (k : Int) < m.length := by have := Hl.out; omega
        by_cases hxy : x = y
        · have hd : decide (x = y) = true := by simp [hxy]
          have Hxy := Lib.hid (And.intro hxy hd); clear hxy hd
          go_wp2
          go_still_tail 8, (by kernel_rfl)
          change wpList _ _ _ _ _ wr.drew
          go_wp2_with fail
          refine (eqLink_c _ _ x y _ (linkC.vext HV.out.1 (Ext.drew _)) (linkC.vext HV.out.2 (Ext.drew _))).mono ?_
          rw [Hxy.out.2]
          rintro e w1 ⟨rfl, hE1⟩
          go_wp2
          go_roundw
          case rel => exact ⟨k + 1, by omega, by go_num, Lib.hid (by rw [take_snoc hx, take_snoc hy, hp.out, Hxy.out.1]), hE.trans ((Ext.drew _).trans hE1)⟩
          case measure => simp [intOf]; omega
        · have hd : decide (x = y) = false := by simp [hxy]
          have Hxy := Lib.hid (And.intro hxy hd); clear hxy hd
          go_wp2
          go_still_tail 8, (by kernel_rfl)
          change wpList _ _ _ _ _ wr.drew
          go_wp2_with fail
          refine (eqLink_c _ _ x y _ (linkC.vext HV.out.1 (Ext.drew _)) (linkC.vext HV.out.2 (Ext.drew _))).mono ?_
          rw [Hxy.out.2]
          rintro e w1 ⟨rfl, hE1⟩
          go_wp2
          go_ret
          exact ⟨retB (by symm; rw [decide_eq_false_iff_not]; rintro rfl; exact Hxy.out.1 (Option.some.inj (hx.out.symm.trans hy.out))), hE.trans ((Ext.drew _).trans hE1)⟩
      · have he : k = l.length := by omega
        have He := Lib.hid he; clear he
        go_wp2
        go_ret
        exact ⟨retB (by symm; rw [decide_eq_true_iff]; exact take_all hp.out He.out Hl.out), hE⟩
  · have hl' : ((l.length : Int) != (m.length : Int)) = true := by rw [bne_iff_ne]; omega
    go_enter Try.func64, Try.ntmps64
    go_wp2
    go_ret
    exact ⟨retB (by symm; rw [decide_eq_false_iff_not]; intro e; exact hl (by rw [e])), Ext.refl _⟩

set_option maxHeartbeats 1600000 in
theorem markLinkS_c_o (v : Value) (l : List LinkD) (q : Int) (w : World) (fp : List Nat) (h : linksC.O w [v] l fp) (hn : fp.Nodup) (hq0 : 0 ≤ q) (hq : q + cntL lcnt l ≤ 4611686018427387904) :
    Calls Try.prog 74 #[v, .int .i64 q] w fun e w' => e = .returned (.int .i64 (q + cntL lcnt l)) ∧ ChgF fp w w' ∧ linksC.O w' [v] (mkL lcnt lmk q l) fp := by
  obtain ⟨a, cap, rfl, h1, h2, _⟩ := slice_open (R := linkC) (by decide) (linksC.view h)
  have Hn := Lib.hid hn; clear hn
  go_enter Try.func74, Try.ntmps74
  go_wp2
  go_loopw [1, 5] (fun u i wr => ∃ k : Nat, k ≤ l.length ∧ i = .int .i64 k ∧ u = .int .i64 (q + cntL lcnt (l.take k)) ∧ Hid (linksC.O wr [.slice a l.length cap] (mkL lcnt lmk q (l.take k) ++ l.drop k) fp) ∧ ChgF fp w wr) (fun _ i _ => l.length - (intOf i).toNat)
  case atStart => exact ⟨0, Nat.zero_le _, rfl, valI (by simp [cntL]), by simpa [mkL, Hid] using h, ChgF.refl _ _⟩
  case round =>
    obtain ⟨k, hk, rfl, rfl, hO, hC⟩ := hrel
    by_cases hlt : k < l.length
    · have hd : l.drop k = l[k] :: l.drop (k + 1) := List.drop_eq_getElem_cons hlt
      have hO' := hO.out
      rw [hd] at hO'
      have hlen : (mkL lcnt lmk q (l.take k)).length = k := by rw [mkL_len, List.length_take]; omega
      have hcs : q + cntL lcnt (l.take k) + lcnt l[k] ≤ 4611686018427387904 := by
        have := cntL_take_le lcnt l k hlt; omega
      have hsn := Lib.hid (mkL_snoc lcnt lmk q (l.take k) l[k])
      have hcn := Lib.hid (cntL_snoc lcnt (l.take k) l[k])
      have htk := Lib.hid (List.take_append_getElem hlt)
      generalize hX : l[k] = x at *
      generalize hA : cntL lcnt (l.take k) = A at *
      generalize hL1 : mkL lcnt lmk q (l.take k) = L1 at *
      generalize hL2 : l.drop (k + 1) = L2 at *
      obtain ⟨b, off, c, fx, rfl, hc, hnx, hsub, hbm, hbn, hcell, hfr, _, hst⟩ := slice_at (by decide) hO' Hn.out
      obtain ⟨rfl, rfl⟩ := link_O.1 hc
      have hst' := hst 0 (.int .i64 (q + A)) (q + A, x.2) (by simp) (fun w' h' => link_O.2 ⟨rfl, rfl⟩)
      have hc0 := hcell 0 _ rfl
      rw [hlen, show off + k * linkC.n + 0 = off + k * 2 from rfl] at hc0 hst'
      have hf0 := hfr (off + k * 2)
      have hf1 := hfr (off + k * 2 + 1)
      obtain ⟨b1, off1, c1, fx1, e1, hcx1, hnx1, hsub1, _, _, hcell1, _, _, hst1⟩ := slice_at (by decide) hst' Hn.out
      cases e1
      obtain ⟨rfl, rfl⟩ := link_O.1 hcx1
      have hst2 := hst1 1 (.int .i64 (q + A + 1)) (q + A, q + A + 1) (by simp) (fun w' h' => link_O.2 ⟨rfl, rfl⟩)
      have hc1 := hcell1 1 _ rfl
      rw [hlen, show off + k * linkC.n + 1 = off + k * 2 + 1 from rfl] at hc1 hst2
      have HO3 := Lib.hid hst2
      have HC1 := Lib.hid ((hC.trans ((ChgF.setCell wr ⟨b, off + k * 2, none⟩ (.int .i64 (q + A))).wide (fq := fp) (by intro i hi; rw [List.mem_singleton.1 hi]; exact hbm))).trans ((ChgF.setCell _ ⟨b, off + k * 2 + 1, none⟩ (.int .i64 (q + A + 1))).wide (fq := fp) (by intro i hi; rw [List.mem_singleton.1 hi]; exact hbm)))
      have hz2 : (lcnt x : Int) = 2 := rfl
      have Hz2 := Lib.hid hz2
      rw [hz2] at hcs
      have HL2 := Lib.hid hL2
      clear hA hX hL1 hL2 hz2 hcell hfr hst hst' hst1 hst2 hcell1 hC hO hO' hc hcx1 hsub hsub1 hnx hnx1 hbm hbn hd hlen h
      go_wp2
      go_roundw
      case rel =>
        refine ⟨k + 1, by omega, by go_num, ?_, ?_, HC1.out⟩
        · rw [← htk.out, hcn.out]; exact valI (by push_cast; rw [Hz2.out]; omega)
        · rw [← htk.out, hsn.out, List.append_assoc, HL2.out]; exact HO3
      case measure => simp [intOf]; omega
    · have he : k = l.length := by omega
      have He := Lib.hid he; clear he
      have hO' := hO.out
      go_wp2
      go_ret
      have hk' := He.out
      subst hk'
      rw [List.take_length, List.drop_length, List.append_nil] at hO'
      exact ⟨retI (by rw [List.take_length]), hC, hO'⟩

end Go.Proofs.Ytkigfmkdbgcpeaa
