/- Rows and times: more of what the functions compute. -/
import Derived.Test.YtbapomhoipdanaaRow2
set_option linter.unusedVariables false
set_option linter.unusedSimpArgs false
namespace Go.Proofs.Ytbapomhoipdanaa
open Go.RowKit Go.Sl

set_option maxHeartbeats 400000 in
theorem eqInt64S_cq (v1 v2 : Value) (l m : List Int) (w : World) (h : rowC.V w [v1] l) (hm : rowC.V w [v2] m) :
    Calls Try.prog 28 #[v1, v2] w fun e w' => e = .returned (.bool (decide (l = m))) ∧ ∃ n, w' = w.drewN n := by
  obtain ⟨a, cap, rfl, h1, h2, hc⟩ := row_open h
  obtain ⟨a', cap', rfl, h1', h2', hc'⟩ := row_open hm
  clear h hm
  by_cases hl : l.length = m.length
  · have hl' : ((l.length : Int) != (m.length : Int)) = false := by rw [bne_eq_false_iff_eq]; omega
    have Hl := Lib.hid hl; clear hl
    go_enter Try.func28, Try.ntmps28
    go_wp2
    go_loopw [5] (fun i wr => ∃ k : Nat, k ≤ l.length ∧ i = .int .i64 k ∧ Hid (l.take k = m.take k) ∧ ∃ q, wr = w.drewN q) (fun i _ => l.length - (intOf i).toNat)
    case atStart => exact ⟨0, Nat.zero_le _, rfl, rfl, 0, rfl⟩
    case round =>
      obtain ⟨k, hk, rfl, hp, q, rfl⟩ := hrel
      by_cases hlt : k < l.length
      · obtain ⟨b, off, x, rfl, hcell, hx⟩ := hc k hlt
        obtain ⟨b', off', y, rfl, hcell', hy⟩ := hc' k (by rw [← Hl.out]; exact hlt)
        clear hc hc'
        have hi1 : (0 : Int) ≤ k := by omega
        have hi2 : (k : Int) < l.length := by omega
        have hi3 : (k : Int) < m.length := by have := Hl.out; omega
        by_cases hxy : x = y
        · have hxy' : (x != y) = false := by rw [bne_eq_false_iff_eq]; exact hxy
          have Hxy := Lib.hid hxy; clear hxy
          go_wp2
          go_quiet (fail)
          go_wp2
          go_roundw
          case rel => exact ⟨k + 1, by omega, by go_num, Lib.hid (by rw [take_snoc hx, take_snoc hy, hp.out, Hxy.out]), _, by first | rfl | (simp; rfl)⟩
          case measure => simp [intOf]; omega
        · have hxy' : (x != y) = true := by rw [bne_iff_ne]; exact hxy
          have Hxy := Lib.hid hxy; clear hxy
          go_wp2
          go_quiet (fail)
          go_wp2
          go_ret
          exact ⟨retB (by symm; rw [decide_eq_false_iff_not]; rintro rfl; exact Hxy.out (Option.some.inj (hx.out.symm.trans hy.out))), _, by first | rfl | (simp; rfl)⟩
      · have he : k = l.length := by omega
        have He := Lib.hid he; clear he
        go_wp2
        go_ret
        exact ⟨retB (by symm; rw [decide_eq_true_iff]; exact take_all hp.out He.out Hl.out), q, rfl⟩
  · have hl' : ((l.length : Int) != (m.length : Int)) = true := by rw [bne_iff_ne]; omega
    go_enter Try.func28, Try.ntmps28
    go_wp2
    go_ret
    exact ⟨retB (by symm; rw [decide_eq_false_iff_not]; intro e; exact hl (by rw [e])), 0, rfl⟩

theorem eqInt64S_c (v1 v2 : Value) (l m : List Int) (w : World) (h : rowC.V w [v1] l) (hm : rowC.V w [v2] m) :
    Calls Try.prog 28 #[v1, v2] w fun e w' => e = .returned (.bool (decide (l = m))) ∧ Ext w w' :=
  (eqInt64S_cq v1 v2 l m w h hm).mono fun _ _ ⟨he, hw⟩ => ⟨he, Ext.of_drewN hw⟩

set_option maxHeartbeats 400000 in
theorem likeInts_cq (v1 v2 : Value) (l m : List Int) (w : World) (h : rowC.V w [v1] l) (hm : rowC.V w [v2] m) :
    Calls Try.prog 43 #[v1, v2] w fun e w' => e = .returned (.bool (decide (l = m))) ∧ ∃ n, w' = w.drewN n := by
  obtain ⟨a, cap, rfl, h1, h2, hc⟩ := row_open h
  obtain ⟨a', cap', rfl, h1', h2', hc'⟩ := row_open hm
  clear h hm
  by_cases hl : l.length = m.length
  · have hl' : ((l.length : Int) != (m.length : Int)) = false := by rw [bne_eq_false_iff_eq]; omega
    have Hl := Lib.hid hl; clear hl
    go_enter Try.func43, Try.ntmps43
    go_wp2
    go_loopw [5] (fun i wr => ∃ k : Nat, k ≤ l.length ∧ i = .int .i64 k ∧ Hid (l.take k = m.take k) ∧ ∃ q, wr = w.drewN q) (fun i _ => l.length - (intOf i).toNat)
    case atStart => exact ⟨0, Nat.zero_le _, rfl, rfl, 0, rfl⟩
    case round =>
      obtain ⟨k, hk, rfl, hp, q, rfl⟩ := hrel
      by_cases hlt : k < l.length
      · obtain ⟨b, off, x, rfl, hcell, hx⟩ := hc k hlt
        obtain ⟨b', off', y, rfl, hcell', hy⟩ := hc' k (by rw [← Hl.out]; exact hlt)
        clear hc hc'
        have hi1 : (0 : Int) ≤ k := by omega
        have hi2 : (k : Int) < l.length := by omega
        have hi3 : (k : Int) < m.length := by have := Hl.out; omega
        by_cases hxy : x = y
        · have hxy' : (x != y) = false := by rw [bne_eq_false_iff_eq]; exact hxy
          have Hxy := Lib.hid hxy; clear hxy
          go_wp2
          go_quiet (fail)
          go_wp2
          go_roundw
          case rel => exact ⟨k + 1, by omega, by go_num, Lib.hid (by rw [take_snoc hx, take_snoc hy, hp.out, Hxy.out]), _, by first | rfl | (simp; rfl)⟩
          case measure => simp [intOf]; omega
        · have hxy' : (x != y) = true := by rw [bne_iff_ne]; exact hxy
          have Hxy := Lib.hid hxy; clear hxy
          go_wp2
          go_quiet (fail)
          go_wp2
          go_ret
          exact ⟨retB (by symm; rw [decide_eq_false_iff_not]; rintro rfl; exact Hxy.out (Option.some.inj (hx.out.symm.trans hy.out))), _, by first | rfl | (simp; rfl)⟩
      · have he : k = l.length := by omega
        have He := Lib.hid he; clear he
        go_wp2
        go_ret
        exact ⟨retB (by symm; rw [decide_eq_true_iff]; exact take_all hp.out He.out Hl.out), q, rfl⟩
  · have hl' : ((l.length : Int) != (m.length : Int)) = true := by rw [bne_iff_ne]; omega
    go_enter Try.func43, Try.ntmps43
    go_wp2
    go_ret
    exact ⟨retB (by symm; rw [decide_eq_false_iff_not]; intro e; exact hl (by rw [e])), 0, rfl⟩

theorem likeInts_c (v1 v2 : Value) (l m : List Int) (w : World) (h : rowC.V w [v1] l) (hm : rowC.V w [v2] m) :
    Calls Try.prog 43 #[v1, v2] w fun e w' => e = .returned (.bool (decide (l = m))) ∧ Ext w w' :=
  (likeInts_cq v1 v2 l m w h hm).mono fun _ _ ⟨he, hw⟩ => ⟨he, Ext.of_drewN hw⟩

set_option maxHeartbeats 400000 in
theorem specSameRow_cq (v1 v2 : Value) (l m : List Int) (w : World) (h : rowC.V w [v1] l) (hm : rowC.V w [v2] m) :
    Calls Try.prog 46 #[v1, v2] w fun e w' => e = .returned (.bool (decide (l = m))) ∧ ∃ n, w' = w.drewN n := by
  obtain ⟨a, cap, rfl, h1, h2, hc⟩ := row_open h
  obtain ⟨a', cap', rfl, h1', h2', hc'⟩ := row_open hm
  clear h hm
  by_cases hl : l.length = m.length
  · have hl' : ((l.length : Int) != (m.length : Int)) = false := by rw [bne_eq_false_iff_eq]; omega
    have Hl := Lib.hid hl; clear hl
    go_enter Try.func46, Try.ntmps46
    go_wp2
    go_loopw [5] (fun i wr => ∃ k : Nat, k ≤ l.length ∧ i = .int .i64 k ∧ Hid (l.take k = m.take k) ∧ ∃ q, wr = w.drewN q) (fun i _ => l.length - (intOf i).toNat)
    case atStart => exact ⟨0, Nat.zero_le _, rfl, rfl, 0, rfl⟩
    case round =>
      obtain ⟨k, hk, rfl, hp, q, rfl⟩ := hrel
      by_cases hlt : k < l.length
      · obtain ⟨b, off, x, rfl, hcell, hx⟩ := hc k hlt
        obtain ⟨b', off', y, rfl, hcell', hy⟩ := hc' k (by rw [← Hl.out]; exact hlt)
        clear hc hc'
        have hi1 : (0 : Int) ≤ k := by omega
        have hi2 : (k : Int) < l.length := by omega
        have hi3 : (k : Int) < m.length := by have := Hl.out; omega
        by_cases hxy : x = y
        · have hxy' : (x != y) = false := by rw [bne_eq_false_iff_eq]; exact hxy
          have Hxy := Lib.hid hxy; clear hxy
          go_wp2
          go_quiet (fail)
          go_wp2
          go_roundw
          case rel => exact ⟨k + 1, by omega, by go_num, Lib.hid (by rw [take_snoc hx, take_snoc hy, hp.out, Hxy.out]), _, by first | rfl | (simp; rfl)⟩
          case measure => simp [intOf]; omega
        · have hxy' : (x != y) = true := by rw [bne_iff_ne]; exact hxy
          have Hxy := Lib.hid hxy; clear hxy
          go_wp2
          go_quiet (fail)
          go_wp2
          go_ret
          exact ⟨retB (by symm; rw [decide_eq_false_iff_not]; rintro rfl; exact Hxy.out (Option.some.inj (hx.out.symm.trans hy.out))), _, by first | rfl | (simp; rfl)⟩
      · have he : k = l.length := by omega
        have He := Lib.hid he; clear he
        go_wp2
        go_ret
        exact ⟨retB (by symm; rw [decide_eq_true_iff]; exact take_all hp.out He.out Hl.out), q, rfl⟩
  · have hl' : ((l.length : Int) != (m.length : Int)) = true := by rw [bne_iff_ne]; omega
    go_enter Try.func46, Try.ntmps46
    go_wp2
    go_ret
    exact ⟨retB (by symm; rw [decide_eq_false_iff_not]; intro e; exact hl (by rw [e])), 0, rfl⟩

theorem specSameRow_c (v1 v2 : Value) (l m : List Int) (w : World) (h : rowC.V w [v1] l) (hm : rowC.V w [v2] m) :
    Calls Try.prog 46 #[v1, v2] w fun e w' => e = .returned (.bool (decide (l = m))) ∧ Ext w w' :=
  (specSameRow_cq v1 v2 l m w h hm).mono fun _ _ ⟨he, hw⟩ => ⟨he, Ext.of_drewN hw⟩

set_option maxHeartbeats 400000 in
theorem equalRow_cq (v1 v2 : Value) (l m : List Int) (w : World) (h : rowC.V w [v1] l) (hm : rowC.V w [v2] m) :
    Calls Try.prog 85 #[v1, v2] w fun e w' => e = .returned (.bool (decide (l = m))) ∧ ∃ n, w' = w.drewN n := by
  obtain ⟨a, cap, rfl, h1, h2, hc⟩ := row_open h
  obtain ⟨a', cap', rfl, h1', h2', hc'⟩ := row_open hm
  clear h hm
  by_cases hl : l.length = m.length
  · have hl' : ((l.length : Int) != (m.length : Int)) = false := by rw [bne_eq_false_iff_eq]; omega
    have Hl := Lib.hid hl; clear hl
    go_enter Try.func85, Try.ntmps85
    go_wp2
    go_loopw [5, 13] (fun _ i wr => ∃ k : Nat, k ≤ l.length ∧ i = .int .i64 k ∧ Hid (l.take k = m.take k) ∧ ∃ q, wr = w.drewN q) (fun _ i _ => l.length - (intOf i).toNat)
    case atStart => exact ⟨0, Nat.zero_le _, rfl, rfl, 0, rfl⟩
    case round =>
      obtain ⟨k, hk, rfl, hp, q, rfl⟩ := hrel
      by_cases hlt : k < l.length
      · obtain ⟨b, off, x, rfl, hcell, hx⟩ := hc k hlt
        obtain ⟨b', off', y, rfl, hcell', hy⟩ := hc' k (by rw [← Hl.out]; exact hlt)
        clear hc hc'
        have hi1 : (0 : Int) ≤ k := by omega
        have hi2 : (k : Int) < l.length := by omega
        have hi3 : (k : Int) < m.length := by have := Hl.out; omega
        by_cases hxy : x = y
        · have hxy' : (x != y) = false := by rw [bne_eq_false_iff_eq]; exact hxy
          have Hxy := Lib.hid hxy; clear hxy
          go_wp2
          go_quiet (fail)
          go_wp2
          go_roundw
          case rel => exact ⟨k + 1, by omega, by go_num, Lib.hid (by rw [take_snoc hx, take_snoc hy, hp.out, Hxy.out]), _, by first | rfl | (simp; rfl)⟩
          case measure => simp [intOf]; omega
        · have hxy' : (x != y) = true := by rw [bne_iff_ne]; exact hxy
          have Hxy := Lib.hid hxy; clear hxy
          go_wp2
          go_quiet (fail)
          go_wp2
          go_ret
          exact ⟨retB (by symm; rw [decide_eq_false_iff_not]; rintro rfl; exact Hxy.out (Option.some.inj (hx.out.symm.trans hy.out))), _, by first | rfl | (simp; rfl)⟩
      · have he : k = l.length := by omega
        have He := Lib.hid he; clear he
        go_wp2
        go_ret
        exact ⟨retB (by symm; rw [decide_eq_true_iff]; exact take_all hp.out He.out Hl.out), q, rfl⟩
  · have hl' : ((l.length : Int) != (m.length : Int)) = true := by rw [bne_iff_ne]; omega
    go_enter Try.func85, Try.ntmps85
    go_wp2
    go_ret
    exact ⟨retB (by symm; rw [decide_eq_false_iff_not]; intro e; exact hl (by rw [e])), 0, rfl⟩

theorem equalRow_c (v1 v2 : Value) (l m : List Int) (w : World) (h : rowC.V w [v1] l) (hm : rowC.V w [v2] m) :
    Calls Try.prog 85 #[v1, v2] w fun e w' => e = .returned (.bool (decide (l = m))) ∧ Ext w w' :=
  (equalRow_cq v1 v2 l m w h hm).mono fun _ _ ⟨he, hw⟩ => ⟨he, Ext.of_drewN hw⟩

set_option maxHeartbeats 400000 in
theorem implSameRow_c (v1 v2 : Value) (l m : List Int) (w : World) (h : rowC.V w [v1] l) (hm : rowC.V w [v2] m) :
    Calls Try.prog 49 #[v1, v2] w fun e w' => e = .returned (.bool (decide (l = m))) ∧ Ext w w' := by
  have H := Lib.hid (And.intro h hm); clear h hm
  go_enter Try.func49, Try.ntmps49
  go_wp2_with (go_at_call 85; refine (equalRow_c _ _ l m _ H.out.1 H.out.2).mono ?_; rintro e w' ⟨rfl, hE⟩)
  go_ret
  exact ⟨rfl, hE⟩

def timeOk (x : Int) : Bool := inB x 0 1000000
def clocksOk (l : List Int) : Bool := decide (l.length = 6) && l.all timeOk
def nodeOk (x : Int) : Bool := inB x 0 5
def apart (x y : Int) : Bool := nodeOk x && nodeOk y && !decide (x = y)
def szI (n : Nat) (left : Int) : Int := if left - n < 0 then -1 else left - n







set_option maxHeartbeats 400000 in
theorem szInt64S_c (v : Value) (l : List Int) (q : Int) (w : World) (h : rowC.V w [v] l) (h0 : -1 ≤ q) (h1 : q ≤ 1048576) :
    Calls Try.prog 105 #[v, .int .i64 q] w fun e w' => e = .returned (.int .i64 (szI l.length q)) ∧ w = w' := by
  obtain ⟨a, cap, rfl, h1, h2, hc⟩ := row_open h
  clear h hc
  go_enter Try.func105, Try.ntmps105
  by_cases hn : q - l.length < 0
  all_goals
    go_wp2
    go_ret
    exact ⟨retI (by simp [szI]; omega), rfl⟩


def withSum (l : List Int) : List Int := if rowOk l && decide (l.length < 48) then l ++ [chk l] else []

set_option maxHeartbeats 800000 in
theorem implWithSum_c (v : Value) (l : List Int) (w : World) (h : rowC.V w [v] l) :
    Calls Try.prog 67 #[v] w fun e w' => ∃ v', e = .returned v' ∧ Ext w w' ∧ rowC.own w.heap.size w'.heap.size w' [v'] (withSum l) := by
  have H := Lib.hid h
  obtain ⟨a, cap, rfl, h1, h2, hc⟩ := row_open h
  clear h hc
  cases hr : rowOk l
  · have hw : withSum l = [] := by simp [withSum, hr]
    rw [hw]; have Hw := Lib.hid hw; clear hw
    go_enter Try.func67, Try.ntmps67
    go_wp2_with (go_at_call 92; refine (implRowOk_c _ l _ H.out).mono ?_; rintro e w' ⟨rfl, rfl⟩)
    go_ret
    exact ⟨_, rfl, Ext.refl _, row_nil _ _ _⟩
  · have hlen := rowOk_len hr
    by_cases hl : l.length < 48
    · have hw : withSum l = l ++ [chk l] := by simp [withSum, hr, hl]
      rw [hw]; have Hw := Lib.hid hw; clear hw
      have hm := Lib.hid (fun x hx => rowOk_mem hr (x := x) hx)
      have hso : sumOf l = chk l := by simp [sumOf, hr]
      have Hso := Lib.hid hso; clear hso
      have hne : ((l.length : Int) == 48) = false := by rw [beq_eq_false_iff_ne]; omega
      go_enter Try.func67, Try.ntmps67
      go_wp2_with (first
        | (go_at_call 92; refine (implRowOk_c _ l _ H.out).mono ?_; rintro e w' ⟨rfl, rfl⟩)
        | (go_at_call 91; refine (copyRow_c _ l _ H.out (by omega)).mono ?_; rintro e w1 ⟨v', rfl, hE, hown⟩; obtain ⟨a', cap', rfl, h1', h2', hI, hb⟩ := row_take hown)
        | (go_at_call 93; refine (checksum_c _ l _ (rowC.vext H.out hE) hm.out).mono ?_; rintro e w' ⟨rfl, rfl⟩)
        | (at_builtin; refine wpList_append_ints _ rfl _ _ _ rfl 2 Try.underlying44 Try.infoI _ _ _ l rfl rfl (hI.ext (Ext.alloc _ _)) h1' h2' _ _ _ [chk l] rfl rfl (CellsAt.lit _ _ _) (by omega) ?_; intro a2 cap2 w3 hI3 hle3 hm3 hw3))
      go_ret
      refine ⟨_, rfl, hw3.ext (hE.trans (Ext.alloc _ _)) (fun b h => (hb b h).1), ?_⟩
      exact row_app (by first | exact hI3 | exact Hso.out ▸ hI3) (by simp) hle3 hm3 hw3 (by have := hE.size; simp; omega) (fun b h => (hb b h).1)
    · have hw : withSum l = [] := by simp [withSum, hr, hl]
      rw [hw]; have Hw := Lib.hid hw; clear hw
      have hne : ((l.length : Int) == 48) = true := by rw [beq_iff_eq]; omega
      go_enter Try.func67, Try.ntmps67
      go_wp2_with (go_at_call 92; refine (implRowOk_c _ l _ H.out).mono ?_; rintro e w' ⟨rfl, rfl⟩)
      go_ret
      exact ⟨_, rfl, Ext.refl _, row_nil _ _ _⟩

set_option maxHeartbeats 800000 in
theorem specWithSum_c (v : Value) (l : List Int) (w : World) (h : rowC.V w [v] l) :
    Calls Try.prog 64 #[v] w fun e w' => ∃ v', e = .returned v' ∧ Ext w w' ∧ rowC.own w.heap.size w'.heap.size w' [v'] (withSum l) := by
  have H := Lib.hid h
  obtain ⟨a, cap, rfl, h1, h2, hc⟩ := row_open h
  clear h hc
  cases hr : rowOk l
  · have hw : withSum l = [] := by simp [withSum, hr]
    rw [hw]; have Hw := Lib.hid hw; clear hw
    go_enter Try.func64, Try.ntmps64
    go_wp2_with (go_at_call 89; refine (specRowOk_c _ l _ H.out).mono ?_; rintro e w' ⟨rfl, rfl⟩)
    go_ret
    exact ⟨_, rfl, Ext.alloc _ _, row_empty _ _ _ (Nat.le_refl _)⟩
  · have hlen := rowOk_len hr
    by_cases hl : l.length < 48
    · have hw : withSum l = l ++ [chk l] := by simp [withSum, hr, hl]
      rw [hw]; have Hw := Lib.hid hw; clear hw
      have hm := Lib.hid (fun x hx => rowOk_mem hr (x := x) hx)
      have hso : sumOf l = chk l := by simp [sumOf, hr]
      have Hso := Lib.hid hso; clear hso
      have hne : ((l.length : Int) == 48) = false := by rw [beq_eq_false_iff_ne]; omega
      go_enter Try.func64, Try.ntmps64
      go_wp2_with (first
        | (go_at_call 89; refine (specRowOk_c _ l _ H.out).mono ?_; rintro e w' ⟨rfl, rfl⟩)
        | (go_at_call 88; refine (l1Copy_c _ l _ H.out (by omega)).mono ?_; rintro e w1 ⟨v', rfl, hE, hown⟩; obtain ⟨a', cap', rfl, h1', h2', hI, hb⟩ := row_take hown)
        | (go_at_call 90; refine (specSumOf_c _ l _ (rowC.vext H.out hE) ).mono ?_; rintro e w' ⟨rfl, rfl⟩)
        | (at_builtin; refine wpList_append_ints _ rfl _ _ _ rfl 2 Try.underlying44 Try.infoI _ _ _ l rfl rfl (hI.ext (Ext.alloc _ _)) h1' h2' _ _ _ [sumOf l] rfl rfl (CellsAt.lit _ _ _) (by omega) ?_; intro a2 cap2 w3 hI3 hle3 hm3 hw3))
      go_ret
      refine ⟨_, rfl, hw3.ext (hE.trans (Ext.alloc _ _)) (fun b h => (hb b h).1), ?_⟩
      exact row_app (by first | exact hI3 | exact Hso.out ▸ hI3) (by simp) hle3 hm3 hw3 (by have := hE.size; simp; omega) (fun b h => (hb b h).1)
    · have hw : withSum l = [] := by simp [withSum, hr, hl]
      rw [hw]; have Hw := Lib.hid hw; clear hw
      have hne : ((l.length : Int) == 48) = true := by rw [beq_iff_eq]; omega
      go_enter Try.func64, Try.ntmps64
      go_wp2_with (go_at_call 89; refine (specRowOk_c _ l _ H.out).mono ?_; rintro e w' ⟨rfl, rfl⟩)
      go_ret
      exact ⟨_, rfl, Ext.alloc _ _, row_empty _ _ _ (Nat.le_refl _)⟩

end Go.Proofs.Ytbapomhoipdanaa
