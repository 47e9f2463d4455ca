/- Rows and times: more of what the functions compute. -/
import Derived.Test.YtfakjcckgcgalaaRow2
set_option linter.unusedVariables false
set_option linter.unusedSimpArgs false
namespace Go.Proofs.Ytfakjcckgcgalaa
open Go.RowKit Go.Sl

set_option maxHeartbeats 400000 in
theorem eqInt64S_cq (v1 v2 : Value) (l m : List Int) (w : World) (h : rowC.V w [v1] l) (hm : rowC.V w [v2] m) :
    Calls Try.prog 28 #[v1, v2] w fun e w' => e = .returned (.bool (decide (l = m))) ∧ ∃ n, w' = w.drewN n := by
  obtain ⟨a, cap, rfl, h1, h2, hc⟩ := row_open h
  obtain ⟨a', cap', rfl, h1', h2', hc'⟩ := row_open hm
  clear h hm
  by_cases hl : l.length = m.length
  · have hl' : ((l.length : Int) != (m.length : Int)) = false := by rw [bne_eq_false_iff_eq]; omega
    have Hl := Lib.hid hl; clear hl
    go_enter Try.func28, Try.ntmps28
    go_wp2
    go_loopw [5] (fun i wr => ∃ k : Nat, k ≤ l.length ∧ i = .int .i64 k ∧ Hid (l.take k = m.take k) ∧ ∃ q, wr = w.drewN q) (fun i _ => l.length - (intOf i).toNat)
    case atStart => exact ⟨0, Nat.zero_le _, rfl, rfl, 0, rfl⟩
    case round =>
      obtain ⟨k, hk, rfl, hp, q, rfl⟩ := hrel
      by_cases hlt : k < l.length
      · obtain ⟨b, off, x, rfl, hcell, hx⟩ := hc k hlt
        obtain ⟨b', off', y, rfl, hcell', hy⟩ := hc' k (by rw [← Hl.out]; exact hlt)
        clear hc hc'
        have hi1 : (0 : Int) ≤ k := by omega
        have hi2 : (k : Int) < l.length := by omega
        have hi3 : (k : Int) < m.length := by have := Hl.out; omega
        by_cases hxy : x = y
        · have hxy' : (x != y) = false := by rw [bne_eq_false_iff_eq]; exact hxy
          have Hxy := Lib.hid hxy; clear hxy
          go_wp2
          go_quiet (fail)
          go_wp2
          go_roundw
          case rel => exact ⟨k + 1, by omega, by go_num, Lib.hid (by rw [take_snoc hx, take_snoc hy, hp.out, Hxy.out]), _, by first | rfl | (simp; rfl)⟩
          case measure => simp [intOf]; omega
        · have hxy' : (x != y) = true := by rw [bne_iff_ne]; exact hxy
          have Hxy := Lib.hid hxy; clear hxy
          go_wp2
          go_quiet (fail)
          go_wp2
          go_ret
          exact ⟨retB (by symm; rw [decide_eq_false_iff_not]; rintro rfl; exact Hxy.out (Option.some.inj (hx.out.symm.trans hy.out))), _, by first | rfl | (simp; rfl)⟩
      · have he : k = l.length := by omega
        have He := Lib.hid he; clear he
        go_wp2
        go_ret
        exact ⟨retB (by symm; rw [decide_eq_true_iff]; exact take_all hp.out He.out Hl.out), q, rfl⟩
  · have hl' : ((l.length : Int) != (m.length : Int)) = true := by rw [bne_iff_ne]; omega
    go_enter Try.func28, Try.ntmps28
    go_wp2
    go_ret
    exact ⟨retB (by symm; rw [decide_eq_false_iff_not]; intro e; exact hl (by rw [e])), 0, rfl⟩

theorem eqInt64S_c (v1 v2 : Value) (l m : List Int) (w : World) (h : rowC.V w [v1] l) (hm : rowC.V w [v2] m) :
    Calls Try.prog 28 #[v1, v2] w fun e w' => e = .returned (.bool (decide (l = m))) ∧ Ext w w' :=
  (eqInt64S_cq v1 v2 l m w h hm).mono fun _ _ ⟨he, hw⟩ => ⟨he, Ext.of_drewN hw⟩

set_option maxHeartbeats 400000 in
theorem likeInts_cq (v1 v2 : Value) (l m : List Int) (w : World) (h : rowC.V w [v1] l) (hm : rowC.V w [v2] m) :
    Calls Try.prog 44 #[v1, v2] w fun e w' => e = .returned (.bool (decide (l = m))) ∧ ∃ n, w' = w.drewN n := by
  obtain ⟨a, cap, rfl, h1, h2, hc⟩ := row_open h
  obtain ⟨a', cap', rfl, h1', h2', hc'⟩ := row_open hm
  clear h hm
  by_cases hl : l.length = m.length
  · have hl' : ((l.length : Int) != (m.length : Int)) = false := by rw [bne_eq_false_iff_eq]; omega
    have Hl := Lib.hid hl; clear hl
    go_enter Try.func44, Try.ntmps44
    go_wp2
    go_loopw [5] (fun i wr => ∃ k : Nat, k ≤ l.length ∧ i = .int .i64 k ∧ Hid (l.take k = m.take k) ∧ ∃ q, wr = w.drewN q) (fun i _ => l.length - (intOf i).toNat)
    case atStart => exact ⟨0, Nat.zero_le _, rfl, rfl, 0, rfl⟩
    case round =>
      obtain ⟨k, hk, rfl, hp, q, rfl⟩ := hrel
      by_cases hlt : k < l.length
      · obtain ⟨b, off, x, rfl, hcell, hx⟩ := hc k hlt
        obtain ⟨b', off', y, rfl, hcell', hy⟩ := hc' k (by rw [← Hl.out]; exact hlt)
        clear hc hc'
        have hi1 : (0 : Int) ≤ k := by omega
        have hi2 : (k : Int) < l.length := by omega
        have hi3 : (k : Int) < m.length := by have := Hl.out; omega
        by_cases hxy : x = y
        · have hxy' : (x != y) = false := by rw [bne_eq_false_iff_eq]; exact hxy
          have Hxy := Lib.hid hxy; clear hxy
          go_wp2
          go_quiet (fail)
          go_wp2
          go_roundw
          case rel => exact ⟨k + 1, by omega, by go_num, Lib.hid (by rw [take_snoc hx, take_snoc hy, hp.out, Hxy.out]), _, by first | rfl | (simp; rfl)⟩
          case measure => simp [intOf]; omega
        · have hxy' : (x != y) = true := by rw [bne_iff_ne]; exact hxy
          have Hxy := Lib.hid hxy; clear hxy
          go_wp2
          go_quiet (fail)
          go_wp2
          go_ret
          exact ⟨retB (by symm; rw [decide_eq_false_iff_not]; rintro rfl; exact Hxy.out (Option.some.inj (hx.out.symm.trans hy.out))), _, by first | rfl | (simp; rfl)⟩
      · have he : k = l.length := by omega
        have He := Lib.hid he; clear he
        go_wp2
        go_ret
        exact ⟨retB (by symm; rw [decide_eq_true_iff]; exact take_all hp.out He.out Hl.out), q, rfl⟩
  · have hl' : ((l.length : Int) != (m.length : Int)) = true := by rw [bne_iff_ne]; omega
    go_enter Try.func44, Try.ntmps44
    go_wp2
    go_ret
    exact ⟨retB (by symm; rw [decide_eq_false_iff_not]; intro e; exact hl (by rw [e])), 0, rfl⟩

theorem likeInts_c (v1 v2 : Value) (l m : List Int) (w : World) (h : rowC.V w [v1] l) (hm : rowC.V w [v2] m) :
    Calls Try.prog 44 #[v1, v2] w fun e w' => e = .returned (.bool (decide (l = m))) ∧ Ext w w' :=
  (likeInts_cq v1 v2 l m w h hm).mono fun _ _ ⟨he, hw⟩ => ⟨he, Ext.of_drewN hw⟩




def timeOk (x : Int) : Bool := inB x 0 1000000
def clocksOk (l : List Int) : Bool := decide (l.length = 6) && l.all timeOk
def nodeOk (x : Int) : Bool := inB x 0 5
def apart (x y : Int) : Bool := nodeOk x && nodeOk y && !decide (x = y)
def szI (n : Nat) (left : Int) : Int := if left - n < 0 then -1 else left - n







set_option maxHeartbeats 400000 in
theorem szInt64S_c (v : Value) (l : List Int) (q : Int) (w : World) (h : rowC.V w [v] l) (h0 : -1 ≤ q) (h1 : q ≤ 1048576) :
    Calls Try.prog 80 #[v, .int .i64 q] w fun e w' => e = .returned (.int .i64 (szI l.length q)) ∧ w = w' := by
  obtain ⟨a, cap, rfl, h1, h2, hc⟩ := row_open h
  clear h hc
  go_enter Try.func80, Try.ntmps80
  by_cases hn : q - l.length < 0
  all_goals
    go_wp2
    go_ret
    exact ⟨retI (by simp [szI]; omega), rfl⟩


def withSum (l : List Int) : List Int := if rowOk l && decide (l.length < 48) then l ++ [chk l] else []



end Go.Proofs.Ytfakjcckgcgalaa
