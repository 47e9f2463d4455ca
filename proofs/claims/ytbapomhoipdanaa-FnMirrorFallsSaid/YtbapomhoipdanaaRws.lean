/- Slices of rows: to, eq, mark, held, sz. -/
import Derived.Test.YtbapomhoipdanaaRow3
import Derived.Test.YtbapomhoipdanaaGen
set_option linter.unusedVariables false
set_option linter.unusedSimpArgs false
namespace Go.Proofs.Ytbapomhoipdanaa
open Go.RowKit Go.Sl

abbrev rowsC : Cd (List (List Int)) := sliceC rowC
def rcnt (r : List Int) : Nat := r.length
def rmk (q : Int) (r : List Int) : List Int := iota q r.length

theorem u_slice {w : World} {u : Value} {x : List Int} (h : rowC.V w [u] x) : ∃ a c, u = .slice a x.length c := let ⟨a, c, h, _⟩ := row_open h; ⟨a, c, h⟩

theorem markInt64S_o (v : Value) (l : List Int) (q : Int) (w : World) (fp : List Nat) (h : rowC.O w [v] l fp) (hn : fp.Nodup) (hq0 : 0 ≤ q) (hq : q + rcnt l ≤ 4611686018427387904) :
    Calls Try.prog 29 #[v, .int .i64 q] w fun e w' => e = .returned (.int .i64 (q + rcnt l)) ∧ ChgF fp w w' ∧ rowC.O w' [v] (rmk q l) fp := by
  obtain ⟨a, cap, xs, fps, h1, h2, h3, h4, h5, h6⟩ := h
  obtain ⟨rfl, rfl⟩ := elemsO_int.1 h5
  simp only [List.cons.injEq, and_true] at h1
  subst h1
  rw [List.append_nil] at h6
  subst h6
  have fin : ∀ lo hi w', Chg lo hi w w' → w'.heap.size = w.heap.size → rowC.own lo hi w' [.slice a l.length cap] (iota q l.length) → (∀ k, ¬ k ∈ ablk a → ¬ (lo ≤ k ∧ k < hi)) → ChgF (ablk a) w w' ∧ rowC.O w' [.slice a l.length cap] (rmk q l) (ablk a) := by
    intro lo hi w' hc hz ho hb
    refine ⟨⟨hc.os, hc.tape, hc.output, hz, fun k hk => ?_⟩, ?_⟩
    · by_cases hlt : k < w.heap.size
      · exact hc.block k hlt (hb k hk)
      · rw [Array.getElem?_eq_none (by omega), Array.getElem?_eq_none (by omega)]
    · obtain ⟨fp, ⟨a', cap', xs', fps', e1, e2, e3, e4, e5, e6⟩, _, _⟩ := ho
      obtain ⟨rfl, rfl⟩ := elemsO_int.1 e5
      simp only [List.cons.injEq, Value.slice.injEq, and_true] at e1
      obtain ⟨rfl, e1, rfl⟩ := e1
      exact ⟨a, cap, _, [], by simp [rmk, iota_length], e2, e3, e4, elemsO_int.2 ⟨rfl, rfl⟩, by simp⟩
  cases a with
  | none =>
    have ho : rowC.own 0 0 w [.slice none l.length cap] l := row_own.2 ⟨none, cap, rfl, h2, by simpa [maxLen] using h3, h4, by simp [ablk]⟩
    exact (markInt64S_c _ l q w 0 0 ho hq0 hq).mono fun e w' ⟨he, hc, hz, ho'⟩ => ⟨he, fin 0 0 w' hc hz ho' (by omega)⟩
  | some ad =>
    have ho : rowC.own ad.block (ad.block + 1) w [.slice (some ad) l.length cap] l := row_own.2 ⟨some ad, cap, rfl, h2, by simpa [maxLen] using h3, h4, by simp [ablk]⟩
    exact (markInt64S_c _ l q w _ _ ho hq0 hq).mono fun e w' ⟨he, hc, hz, ho'⟩ => ⟨he, fin _ _ w' hc hz ho' (by simp [ablk]; omega)⟩

theorem heldInt64S_e (v : Value) (l : List Int) (q : Int) (w : World) (h : rowC.V w [v] (rmk q l)) (hq0 : 0 ≤ q) (hq : q + rcnt l ≤ 4611686018427387904) :
    Calls Try.prog 59 #[v, .int .i64 q] w fun e w' => e = .returned (.int .i64 (q + rcnt l)) ∧ Ext w w' :=
  heldInt64S_c v l q w h hq0 hq

theorem szInt64S_e (v : Value) (l : List Int) (q : Int) (w : World) (h : rowC.V w [v] l) (h0 : -1 ≤ q) (h1 : q ≤ 1048576) :
    Calls Try.prog 105 #[v, .int .i64 q] w fun e w' => e = .returned (.int .i64 (szI (rcnt l) q)) ∧ Ext w w' :=
  (szInt64S_c v l q w h h0 h1).mono fun _ _ ⟨he, hw⟩ => ⟨he, Ext.of_eq hw⟩

set_option maxHeartbeats 800000 in
theorem markInt64SS_c_o (v : Value) (l : _) (q : Int) (w : World) (fp : List Nat) (h : (sliceC rowC).O w [v] l fp) (hn : fp.Nodup) (hq0 : 0 ≤ q) (hq : q + cntL rcnt l ≤ 4611686018427387904) :
    Calls Try.prog 20 #[v, .int .i64 q] w fun e w' => e = .returned (.int .i64 (q + cntL rcnt l)) ∧ ChgF fp w w' ∧ (sliceC rowC).O w' [v] (mkL rcnt rmk q l) fp := by
  obtain ⟨a, cap, rfl, h1, h2, _⟩ := slice_open1 (R := rowC) rfl ((sliceC rowC).view h)
  have Hn := Lib.hid hn; clear hn
  go_enter Try.func20, Try.ntmps20
  go_wp2
  go_loopw [1, 5] (fun u i wr => ∃ k : Nat, k ≤ l.length ∧ i = .int .i64 k ∧ u = .int .i64 (q + cntL rcnt (l.take k)) ∧ Hid ((sliceC rowC).O wr [.slice a l.length cap] (mkL rcnt rmk q (l.take k) ++ l.drop k) fp) ∧ ChgF fp w wr) (fun _ i _ => l.length - (intOf i).toNat)
  case atStart => exact ⟨0, Nat.zero_le _, rfl, valI (by simp [cntL]), by simpa [mkL, Hid] using h, ChgF.refl _ _⟩
  case round =>
    obtain ⟨k, hk, rfl, rfl, hO, hC⟩ := hrel
    by_cases hlt : k < l.length
    · have hd : l.drop k = l[k] :: l.drop (k + 1) := List.drop_eq_getElem_cons hlt
      have hO' := hO.out
      rw [hd] at hO'
      obtain ⟨b, off, c, fx, rfl, hc, hnx, hsub, hbm, hbn, hcell, hfr, hmk, _⟩ := slice_at (by decide) hO' Hn.out
      clear hO hO' hd
      have hlen : (mkL rcnt rmk q (l.take k)).length = k := by rw [mkL_len, List.length_take]; omega
      have hlc : c.length = 1 := (rowC).len ((rowC).view hc)
      obtain ⟨u, rfl⟩ := List.length_eq_one_iff.1 hlc
      have hcu := hcell 0 u rfl
      rw [hlen, show off + k * (rowC).n + 0 = off + k by show off + k * 1 + 0 = off + k; omega] at hcu
      have hcs : q + cntL rcnt (l.take k) + rcnt l[k] ≤ 4611686018427387904 := by
        have := cntL_take_le rcnt l k hlt; omega
      have HM := Lib.hid hmk
      have Hc := Lib.hid hc
      have Hs := Lib.hid hsub
      have Hnx := Lib.hid hnx
      clear hcell hfr hmk hc hlc hsub hnx hlen
      have hsn := Lib.hid (mkL_snoc rcnt rmk q (l.take k) l[k])
      have hcn := Lib.hid (cntL_snoc rcnt (l.take k) l[k])
      have htk := Lib.hid (List.take_append_getElem hlt)
      generalize hX : l[k] = x at *
      generalize hA : cntL rcnt (l.take k) = A at *
      have HA := Lib.hid hA
      clear hA hX
      go_wp2_with fail
      refine (markInt64S_o _ x _ _ fx Hc.out Hnx.out (by omega) (by omega)).mono ?_
      rintro e w2 ⟨rfl, hC2, hO2⟩
      have hO3 := Lib.hid (HM.out _ _ hC2 hO2)
      have hC3 := Lib.hid (hC.trans (hC2.wide Hs.out))
      clear hC hC2 hO2
      go_wp2
      go_roundw
      case rel =>
        refine ⟨k + 1, by omega, by go_num, ?_, ?_, hC3.out⟩
        · rw [← htk.out, hcn.out]; exact valI (by push_cast; omega)
        · rw [← htk.out, hsn.out, List.append_assoc]; exact hO3
      case measure => simp [intOf]; omega
    · have he : k = l.length := by omega
      have He := Lib.hid he; clear he
      have hO' := hO.out
      go_wp2
      go_ret
      have hk' := He.out
      subst hk'
      rw [List.take_length, List.drop_length, List.append_nil] at hO'
      exact ⟨retI (by rw [List.take_length]), hC, hO'⟩

theorem markInt64SS_c (v : Value) (l : _) (q : Int) (w : World) (lo hi : Nat) (h : (sliceC rowC).own lo hi w [v] l) (hq0 : 0 ≤ q) (hq : q + cntL rcnt l ≤ 4611686018427387904) :
    Calls Try.prog 20 #[v, .int .i64 q] w fun e w' => e = .returned (.int .i64 (q + cntL rcnt l)) ∧ Chg lo hi w w' ∧ w'.heap.size = w.heap.size ∧ (sliceC rowC).own lo hi w' [v] (mkL rcnt rmk q l) :=
  mark_own h fun fp ho hn => markInt64SS_c_o v l q w fp ho hn hq0 hq

set_option maxHeartbeats 800000 in
theorem toInt64SS_c (v : Value) (l : _) (w : World) (h : (sliceC rowC).V w [v] l) (hs : l.length ≤ 2097152 ∧ ∀ x ∈ l, x.length ≤ 2097152) :
    Calls Try.prog 83 #[v] w fun e w' => ∃ v', e = .returned v' ∧ Ext w w' ∧ (sliceC rowC).own w.heap.size w'.heap.size w' [v'] l := by
  obtain ⟨a, cap, rfl, h1, h2, hc⟩ := slice_open1 (R := rowC) rfl h
  clear h
  have hinf : (Try.prog.info? 44).map (fun i => (i.zero, i.size, i.bytes)) = some (some (.slice none 0 0), 1, 24) := by kernel_rfl
  have Hinf := Lib.hid hinf; clear hinf
  have Hs := Lib.hid hs.2
  have hs1 := hs.1
  clear hs
  go_enter Try.func83, Try.ntmps83
  go_wp2_with (at_make; refine wpList_make_sl _ rfl _ _ _ rfl 44 Try.underlying22 _ 1 24 Hinf.out l.length rfl rfl ?b ?b2 ?_)
  case b => omega
  case b2 => omega
  intro w1 zs hsl hzl hzz hE hz
  have hF0 : Filled rowC w1 w.heap.size l.length [] := Filled.start hsl (by rw [hzl]; show _ = l.length * 1; omega)
  clear hsl hzl hzz
  go_wp2
  go_loopw [4] (fun i wr => ∃ k : Nat, k ≤ l.length ∧ i = .int .i64 k ∧ Hid (Filled rowC wr w.heap.size l.length (l.take k)) ∧ Ext w wr ∧ w.heap.size < wr.heap.size) (fun i _ => l.length - (intOf i).toNat)
  case atStart => exact ⟨0, Nat.zero_le _, rfl, by simpa [Hid] using hF0, hE, hz⟩
  case round =>
    clear hE hF0 hz
    obtain ⟨k, hk, rfl, hF, hE, hz⟩ := hrel
    by_cases hlt : k < l.length
    · obtain ⟨b, off, x, u, rfl, hx, hv, hcell⟩ := hc k hlt
      clear hc
      have hcw := cell_ext hcell hE
      have HV := Lib.hid ((rowC).vext hv hE)
      have hsm := Hs.out x (List.mem_of_getElem? hx.out)
      clear hcell hv
      go_wp2_with fail
      refine (toInt64S_c _ x _ HV.out hsm).mono ?_
      rintro e w2 ⟨u', rfl, hE2, hO⟩
      have hlk : (l.take k).length = k := by rw [List.length_take]; omega
      have hF2 := hF.out.ext hE2
      obtain ⟨⟨y, hy⟩, hfz⟩ := hF2.room (by omega) 0 (by decide)
      rw [hlk, show k * (rowC).n + 0 = k by show k * 1 + 0 = k; omega] at hy hfz
      have hn := Filled.next hF2 (by omega) hO hz ⟨wr, hF.out, hE2, Nat.le_refl _⟩
      rw [hlk, show k * (rowC).n = k by show k * 1 = k; omega] at hn
      have HN : Hid (Filled rowC (w2.setCell ⟨w.heap.size, k, none⟩ u') w.heap.size l.length (l.take (k + 1))) := by rw [take_snoc hx]; exact hn
      have hE3 := hE.trans hE2
      have hz2 := hE2.size
      have h1c : u'.oneCell' = true := (rowC).one hO.view u' (by simp)
      have HO := Lib.hid hO.view
      clear hn hF2 hE2 hlk hO hsm
      obtain ⟨a2, c2, rfl⟩ := u_slice HO.out
      go_wp2
      go_roundw
      case rel => exact ⟨k + 1, by omega, by go_num, HN, Ext.pSet hE3 (Nat.le_refl _) _, by simp [World.setCell]; omega⟩
      case measure => simp [intOf]; omega
    · have he : k = l.length := by omega
      have He := Lib.hid he; clear he
      go_wp2
      go_ret
      have hF' := hF.out
      rw [He.out, List.take_length] at hF'
      exact ⟨_, rfl, hE, Filled.done hF' rfl (Nat.le_refl _) (by omega)⟩

set_option maxHeartbeats 800000 in
theorem heldInt64SS_c (v : Value) (l : _) (q : Int) (w : World) (h : (sliceC rowC).V w [v] (mkL rcnt rmk q l)) (hq0 : 0 ≤ q) (hq : q + cntL rcnt l ≤ 4611686018427387904) :
    Calls Try.prog 21 #[v, .int .i64 q] w fun e w' => e = .returned (.int .i64 (q + cntL rcnt l)) ∧ Ext w w' := by
  obtain ⟨a, cap, rfl, h1, h2, hc⟩ := slice_open1 (R := rowC) rfl h
  clear h
  have hml := mkL_len rcnt rmk q l
  rw [hml] at h1 hc ⊢
  clear hml
  go_enter Try.func21, Try.ntmps21
  go_wp2
  go_loopw [1, 5] (fun u i wr => ∃ k : Nat, k ≤ l.length ∧ i = .int .i64 k ∧ u = .int .i64 (q + cntL rcnt (l.take k)) ∧ Ext w wr) (fun _ i _ => l.length - (intOf i).toNat)
  case atStart => exact ⟨0, Nat.zero_le _, rfl, valI (by simp [cntL]), Ext.refl _⟩
  case round =>
    obtain ⟨k, hk, rfl, rfl, hE⟩ := hrel
    by_cases hlt : k < l.length
    · obtain ⟨b, off, x, u, rfl, hx, hv, hcell⟩ := hc k hlt
      clear hc
      have hx' := hx.out
      rw [mkL_get rcnt rmk q l k hlt] at hx'
      have hx2 := Option.some.inj hx'
      subst hx2
      clear hx hx'
      have hcs : q + cntL rcnt (l.take k) + rcnt l[k] ≤ 4611686018427387904 := by
        have := cntL_take_le rcnt l k hlt; omega
      have hcn := Lib.hid (cntL_snoc rcnt (l.take k) l[k])
      have htk := Lib.hid (List.take_append_getElem hlt)
      have hcw := cell_ext hcell hE
      clear hcell
      have HV := Lib.hid ((rowC).vext hv hE); clear hv
      generalize hX : l[k] = y at *
      generalize hA : cntL rcnt (l.take k) = A at *
      clear hA hX
      go_wp2_with fail
      refine (heldInt64S_e _ y _ _ HV.out (by omega) (by omega)).mono ?_
      rintro e w2 ⟨rfl, hE2⟩
      have hE3 := hE.trans hE2
      clear hE hE2
      go_wp2
      go_roundw
      case rel => exact ⟨k + 1, by omega, by go_num, by rw [← htk.out, hcn.out]; exact valI (by push_cast; omega), hE3⟩
      case measure => simp [intOf]; omega
    · have he : k = l.length := by omega
      have He := Lib.hid he; clear he
      go_wp2
      go_ret
      exact ⟨retI (by rw [He.out, List.take_length]), hE⟩

set_option maxHeartbeats 800000 in
theorem szInt64SS_c (v : Value) (l : _) (q : Int) (w : World) (h : (sliceC rowC).V w [v] l) (h0 : -1 ≤ q) (h1 : q ≤ 1048576) :
    Calls Try.prog 81 #[v, .int .i64 q] w fun e w' => e = .returned (.int .i64 (szI (l.length + cntL rcnt l) q)) ∧ Ext w w' := by
  obtain ⟨a, cap, rfl, h1', h2, hc⟩ := slice_open (R := rowC) (by decide) h
  clear h
  by_cases hn : q - l.length < 0
  · have hs : szI (l.length + cntL rcnt l) q = -1 := by unfold szI; rw [if_pos (by push_cast; omega)]
    rw [hs]; have Hs := Lib.hid hs; clear hs hc
    go_enter Try.func81, Try.ntmps81
    go_wp2
    go_ret
    exact ⟨rfl, Ext.refl _⟩
  · go_enter Try.func81, Try.ntmps81
    go_wp2
    go_loopw [1, 5] (fun u i wr => ∃ (k : Nat) (A : Nat), k ≤ l.length ∧ i = .int .i64 k ∧ u = .int .i64 (q - l.length - A) ∧ A = cntL rcnt (l.take k) ∧ 0 ≤ q - l.length - A ∧ Ext w wr) (fun _ i _ => l.length - (intOf i).toNat)
    case atStart => exact ⟨0, 0, Nat.zero_le _, rfl, valI (by omega), by simp [cntL], by omega, Ext.refl _⟩
    case round =>
      obtain ⟨k, A, hk, rfl, rfl, hA, hpos, hE⟩ := hrel
      have HA := Lib.hid hA; clear hA
      by_cases hlt : k < l.length
      · obtain ⟨b, off, x, c, rfl, hx, hv, hcell⟩ := hc k hlt
        clear hc
        have hcn := Lib.hid (cntL_snoc rcnt (l.take k) x)
        have hle := cntL_take_le rcnt l k hlt
        rw [show l[k] = x from Option.some.inj ((List.getElem?_eq_getElem hlt).symm.trans hx.out), ← HA.out] at hle
        have htk := take_snoc hx
        have Htk := Lib.hid htk; clear htk
        have HV := Lib.hid ((rowC).vext hv hE); clear hv
        have hcu : wr.cell? ⟨b, off + k, none⟩ = c[0]? := by
          obtain ⟨u, rfl⟩ := List.length_eq_one_iff.1 (rowC.len HV.out)
          have := hcell 0 u rfl
          rw [show off + k * (rowC).n + 0 = off + k from by show off + k * 1 + 0 = off + k; omega] at this
          exact cell_ext this hE
        obtain ⟨u, rfl⟩ := List.length_eq_one_iff.1 (rowC.len HV.out)
        simp only [List.getElem?_cons_zero] at hcu
        clear hcell
        by_cases hneg : q - l.length - A - rcnt x < 0
        · have hs : szI (l.length + cntL rcnt l) q = -1 := by unfold szI; rw [if_pos (by push_cast; omega)]
          have Hs := Lib.hid hs; clear hs
          have hr : szI (rcnt x) (q - l.length - A) = -1 := by simp [szI, hneg]
          have Hr := Lib.hid hr; clear hr
          go_wp2_with fail
          refine (szInt64S_e _ x _ _ HV.out (by omega) (by omega)).mono ?_
          rw [Hr.out]
          rintro e w2 ⟨rfl, hE2⟩
          have hE3 := hE.trans hE2
          clear hE hE2
          go_wp2
          go_ret
          exact ⟨retI Hs.out.symm, hE3⟩
        · have hr : szI (rcnt x) (q - l.length - A) = q - l.length - A - rcnt x := by simp [szI, hneg]
          have Hr := Lib.hid hr; clear hr
          go_wp2_with fail
          refine (szInt64S_e _ x _ _ HV.out (by omega) (by omega)).mono ?_
          rw [Hr.out]
          rintro e w2 ⟨rfl, hE2⟩
          have hE3 := hE.trans hE2
          clear hE hE2
          go_wp2
          go_roundw
          case rel => exact ⟨k + 1, A + rcnt x, by omega, by go_num, valI (by push_cast; omega), by rw [Htk.out, hcn.out, HA.out], by push_cast; omega, hE3⟩
          case measure => simp [intOf]; omega
      · have he : k = l.length := by omega
        have He := Lib.hid he; clear he
        go_wp2
        go_ret
        refine ⟨retI ?_, hE⟩
        have := HA.out
        rw [He.out, List.take_length] at this
        rw [← this]
        unfold szI
        rw [if_neg (by push_cast; omega)]
        push_cast; omega

set_option maxHeartbeats 800000 in
theorem eqInt64SS_cq (v1 v2 : Value) (l m : _) (w : World) (h : (sliceC rowC).V w [v1] l) (hm : (sliceC rowC).V w [v2] m) :
    Calls Try.prog 18 #[v1, v2] w fun e w' => e = .returned (.bool (decide (l = m))) ∧ ∃ n, w' = w.drewN n := by
  obtain ⟨a, cap, rfl, h1, h2, hc⟩ := slice_open1 (R := rowC) rfl h
  obtain ⟨a', cap', rfl, h1', h2', hc'⟩ := slice_open1 (R := rowC) rfl hm
  clear h hm
  by_cases hl : l.length = m.length
  · have hl' : ((l.length : Int) != (m.length : Int)) = false := by rw [bne_eq_false_iff_eq]; omega
    have Hl := Lib.hid hl; clear hl
    go_enter Try.func18, Try.ntmps18
    go_wp2
    go_loopw [5] (fun i wr => ∃ k : Nat, k ≤ l.length ∧ i = .int .i64 k ∧ Hid (l.take k = m.take k) ∧ ∃ q, Hid (wr = w.drewN q)) (fun i _ => l.length - (intOf i).toNat)
    case atStart => exact ⟨0, Nat.zero_le _, rfl, rfl, 0, rfl⟩
    case round =>
      obtain ⟨k, hk, rfl, hp, q, hq⟩ := hrel
      have hE : Ext w wr := hq.out ▸ Ext.drewN w q
      by_cases hlt : k < l.length
      · obtain ⟨b, off, x, u, rfl, hx, hv, hcell⟩ := hc k hlt
        obtain ⟨b', off', y, u', rfl, hy, hv', hcell'⟩ := hc' k (by rw [← Hl.out]; exact hlt)
        clear hc hc'
        have HV := Lib.hid (And.intro ((rowC).vext hv hE) ((rowC).vext hv' hE)); clear hv hv'
        have hcw := cell_ext hcell hE
        have hcw' := cell_ext hcell' hE
        clear hcell hcell' hE
        have hi1 : (0 : Int) ≤ k := by omega
        have hi2 : (k : Int) < l.length := by omega
        have hi3 : (k : Int) < m.length := by have := Hl.out; omega
        by_cases hxy : x = y
        · have hd : decide (x = y) = true := by simp [hxy]
          have Hxy := Lib.hid (And.intro hxy hd); clear hxy hd
          go_wp2
          go_quiet ((go_at_call 28; exact quiet_drawn (Hxy.out.2 ▸ eqInt64S_cq _ _ x y _ ((rowC).vext HV.out.1 (Ext.drewN _ _)) ((rowC).vext HV.out.2 (Ext.drewN _ _)))))
          go_wp2
          go_roundw
          case rel => exact ⟨k + 1, by omega, by go_num, Lib.hid (by rw [take_snoc hx, take_snoc hy, hp.out, Hxy.out.1]), _, Lib.hid (by rw [hq.out]; first | rfl | (simp; rfl))⟩
          case measure => simp [intOf]; omega
        · have hd : decide (x = y) = false := by simp [hxy]
          have Hxy := Lib.hid (And.intro hxy hd); clear hxy hd
          go_wp2
          go_quiet ((go_at_call 28; exact quiet_drawn (Hxy.out.2 ▸ eqInt64S_cq _ _ x y _ ((rowC).vext HV.out.1 (Ext.drewN _ _)) ((rowC).vext HV.out.2 (Ext.drewN _ _)))))
          go_wp2
          go_ret
          exact ⟨retB (by symm; rw [decide_eq_false_iff_not]; rintro rfl; exact Hxy.out.1 (Option.some.inj (hx.out.symm.trans hy.out))), _, by rw [hq.out]; first | rfl | (simp; rfl)⟩
      · have he : k = l.length := by omega
        have He := Lib.hid he; clear he
        go_wp2
        go_ret
        exact ⟨retB (by symm; rw [decide_eq_true_iff]; exact take_all hp.out He.out Hl.out), q, hq.out⟩
  · have hl' : ((l.length : Int) != (m.length : Int)) = true := by rw [bne_iff_ne]; omega
    go_enter Try.func18, Try.ntmps18
    go_wp2
    go_ret
    exact ⟨retB (by symm; rw [decide_eq_false_iff_not]; intro e; exact hl (by rw [e])), 0, rfl⟩

theorem eqInt64SS_c (v1 v2 : Value) (l m : _) (w : World) (h : (sliceC rowC).V w [v1] l) (hm : (sliceC rowC).V w [v2] m) :
    Calls Try.prog 18 #[v1, v2] w fun e w' => e = .returned (.bool (decide (l = m))) ∧ Ext w w' :=
  (eqInt64SS_cq v1 v2 l m w h hm).mono fun _ _ ⟨he, hw⟩ => ⟨he, Ext.of_drewN hw⟩

end Go.Proofs.Ytbapomhoipdanaa
