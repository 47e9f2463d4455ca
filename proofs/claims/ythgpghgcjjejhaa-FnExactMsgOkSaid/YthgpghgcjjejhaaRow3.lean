/- Rows and times: more of what the functions compute. -/
import Derived.Test.YthgpghgcjjejhaaRow2
set_option linter.unusedVariables false
set_option linter.unusedSimpArgs false
namespace Go.Proofs.Ythgpghgcjjejhaa
open Go.RowKit Go.Sl

set_option maxHeartbeats 400000 in
theorem specSameRow_c (v1 v2 : Value) (l m : List Int) (w : World) (h : rowC.V w [v1] l) (hm : rowC.V w [v2] m) :
    Calls Try.prog 25 #[v1, v2] w fun e w' => e = .returned (.bool (decide (l = m))) ∧ Ext w w' := by
  obtain ⟨a, cap, rfl, h1, h2, hc⟩ := row_open h
  obtain ⟨a', cap', rfl, h1', h2', hc'⟩ := row_open hm
  clear h hm
  by_cases hl : l.length = m.length
  · have hl' : ((l.length : Int) != (m.length : Int)) = false := by rw [bne_eq_false_iff_eq]; omega
    have Hl := Lib.hid hl; clear hl
    go_enter Try.func25, Try.ntmps25
    go_wp2
    go_loopw [5] (fun i wr => ∃ k : Nat, k ≤ l.length ∧ i = .int .i64 k ∧ Hid (l.take k = m.take k) ∧ Ext w wr) (fun i _ => l.length - (intOf i).toNat)
    case atStart => exact ⟨0, Nat.zero_le _, rfl, rfl, Ext.refl _⟩
    case round =>
      obtain ⟨k, hk, rfl, hp, hE⟩ := hrel
      by_cases hlt : k < l.length
      · obtain ⟨b, off, x, rfl, hcell, hx⟩ := hc k hlt
        obtain ⟨b', off', y, rfl, hcell', hy⟩ := hc' k (by rw [← Hl.out]; exact hlt)
        clear hc hc'
        have h1 := cell_ext hcell hE
        have h2 := cell_ext hcell' hE
        clear hcell hcell'
        have hi1 : (0 : Int) ≤ k := by omega
        have hi2 : (k : Int) < l.length := by omega
        have hi3 : (k : Int) < m.length := by have := Hl.out; omega
        by_cases hxy : x = y
        · have hxy' : (x != y) = false := by rw [bne_eq_false_iff_eq]; exact hxy
          have Hxy := Lib.hid hxy; clear hxy
          go_wp2
          go_quiet (fail)
          go_wp2
          go_roundw
          case rel => exact ⟨k + 1, by omega, by go_num, Lib.hid (by rw [take_snoc hx, take_snoc hy, hp.out, Hxy.out]), hE.trans (Ext.drewN _ _)⟩
          case measure => simp [intOf]; omega
        · have hxy' : (x != y) = true := by rw [bne_iff_ne]; exact hxy
          have Hxy := Lib.hid hxy; clear hxy
          go_wp2
          go_quiet (fail)
          go_wp2
          go_ret
          exact ⟨retB (by symm; rw [decide_eq_false_iff_not]; rintro rfl; exact Hxy.out (Option.some.inj (hx.out.symm.trans hy.out))), hE.trans (Ext.drewN _ _)⟩
      · have he : k = l.length := by omega
        have He := Lib.hid he; clear he
        go_wp2
        go_ret
        exact ⟨retB (by symm; rw [decide_eq_true_iff]; exact take_all hp.out He.out Hl.out), hE⟩
  · have hl' : ((l.length : Int) != (m.length : Int)) = true := by rw [bne_iff_ne]; omega
    go_enter Try.func25, Try.ntmps25
    go_wp2
    go_ret
    exact ⟨retB (by symm; rw [decide_eq_false_iff_not]; intro e; exact hl (by rw [e])), Ext.refl _⟩

set_option maxHeartbeats 400000 in
theorem equalRow_c (v1 v2 : Value) (l m : List Int) (w : World) (h : rowC.V w [v1] l) (hm : rowC.V w [v2] m) :
    Calls Try.prog 49 #[v1, v2] w fun e w' => e = .returned (.bool (decide (l = m))) ∧ Ext w w' := by
  obtain ⟨a, cap, rfl, h1, h2, hc⟩ := row_open h
  obtain ⟨a', cap', rfl, h1', h2', hc'⟩ := row_open hm
  clear h hm
  by_cases hl : l.length = m.length
  · have hl' : ((l.length : Int) != (m.length : Int)) = false := by rw [bne_eq_false_iff_eq]; omega
    have Hl := Lib.hid hl; clear hl
    go_enter Try.func49, Try.ntmps49
    go_wp2
    go_loopw [5, 13] (fun _ i wr => ∃ k : Nat, k ≤ l.length ∧ i = .int .i64 k ∧ Hid (l.take k = m.take k) ∧ Ext w wr) (fun _ i _ => l.length - (intOf i).toNat)
    case atStart => exact ⟨0, Nat.zero_le _, rfl, rfl, Ext.refl _⟩
    case round =>
      obtain ⟨k, hk, rfl, hp, hE⟩ := hrel
      by_cases hlt : k < l.length
      · obtain ⟨b, off, x, rfl, hcell, hx⟩ := hc k hlt
        obtain ⟨b', off', y, rfl, hcell', hy⟩ := hc' k (by rw [← Hl.out]; exact hlt)
        clear hc hc'
        have h1 := cell_ext hcell hE
        have h2 := cell_ext hcell' hE
        clear hcell hcell'
        have hi1 : (0 : Int) ≤ k := by omega
        have hi2 : (k : Int) < l.length := by omega
        have hi3 : (k : Int) < m.length := by have := Hl.out; omega
        by_cases hxy : x = y
        · have hxy' : (x != y) = false := by rw [bne_eq_false_iff_eq]; exact hxy
          have Hxy := Lib.hid hxy; clear hxy
          go_wp2
          go_quiet (fail)
          go_wp2
          go_roundw
          case rel => exact ⟨k + 1, by omega, by go_num, Lib.hid (by rw [take_snoc hx, take_snoc hy, hp.out, Hxy.out]), hE.trans (Ext.drewN _ _)⟩
          case measure => simp [intOf]; omega
        · have hxy' : (x != y) = true := by rw [bne_iff_ne]; exact hxy
          have Hxy := Lib.hid hxy; clear hxy
          go_wp2
          go_quiet (fail)
          go_wp2
          go_ret
          exact ⟨retB (by symm; rw [decide_eq_false_iff_not]; rintro rfl; exact Hxy.out (Option.some.inj (hx.out.symm.trans hy.out))), hE.trans (Ext.drewN _ _)⟩
      · have he : k = l.length := by omega
        have He := Lib.hid he; clear he
        go_wp2
        go_ret
        exact ⟨retB (by symm; rw [decide_eq_true_iff]; exact take_all hp.out He.out Hl.out), hE⟩
  · have hl' : ((l.length : Int) != (m.length : Int)) = true := by rw [bne_iff_ne]; omega
    go_enter Try.func49, Try.ntmps49
    go_wp2
    go_ret
    exact ⟨retB (by symm; rw [decide_eq_false_iff_not]; intro e; exact hl (by rw [e])), Ext.refl _⟩

set_option maxHeartbeats 400000 in
theorem implSameRow_c (v1 v2 : Value) (l m : List Int) (w : World) (h : rowC.V w [v1] l) (hm : rowC.V w [v2] m) :
    Calls Try.prog 27 #[v1, v2] w fun e w' => e = .returned (.bool (decide (l = m))) ∧ Ext w w' := by
  have H := Lib.hid (And.intro h hm); clear h hm
  go_enter Try.func27, Try.ntmps27
  go_wp2_with (go_at_call 49; refine (equalRow_c _ _ l m _ H.out.1 H.out.2).mono ?_; rintro e w' ⟨rfl, hE⟩)
  go_ret
  exact ⟨rfl, hE⟩

def timeOk (x : Int) : Bool := inB x 0 1000000
def clocksOk (l : List Int) : Bool := decide (l.length = 6) && l.all timeOk
def nodeOk (x : Int) : Bool := inB x 0 5
def apart (x y : Int) : Bool := nodeOk x && nodeOk y && !decide (x = y)
def szI (n : Nat) (left : Int) : Int := if left - n < 0 then -1 else left - n

theorem implTimeOk_c (x : Int) (w : World) : Calls Try.prog 16 #[.int .i64 x] w fun e w' => e = .returned (.bool (timeOk x)) ∧ w = w' := by
  go_enter Try.func16, Try.ntmps16
  go_wp2_with (go_at_call 47; refine (between_c _ _ _ _).mono ?_; rintro e w' ⟨rfl, rfl⟩)
  go_ret
  exact ⟨rfl, rfl⟩

theorem specTimeOk_c (x : Int) (w : World) : Calls Try.prog 15 #[.int .i64 x] w fun e w' => e = .returned (.bool (timeOk x)) ∧ w = w' := by
  go_enter Try.func15, Try.ntmps15
  go_wp2_with (go_at_call 46; refine (l1In_c _ _ _ _).mono ?_; rintro e w' ⟨rfl, rfl⟩)
  go_ret
  exact ⟨rfl, rfl⟩

theorem nodeOk_c (x : Int) (w : World) : Calls Try.prog 58 #[.int .i64 x] w fun e w' => e = .returned (.bool (nodeOk x)) ∧ w = w' := by
  go_enter Try.func58, Try.ntmps58
  go_wp2_with (go_at_call 47; refine (between_c _ _ _ _).mono ?_; rintro e w' ⟨rfl, rfl⟩)
  go_ret
  exact ⟨rfl, rfl⟩

theorem l5Node_c (x : Int) (w : World) : Calls Try.prog 52 #[.int .i64 x] w fun e w' => e = .returned (.bool (nodeOk x)) ∧ w = w' := by
  go_enter Try.func52, Try.ntmps52
  go_wp2_with (go_at_call 46; refine (l1In_c _ _ _ _).mono ?_; rintro e w' ⟨rfl, rfl⟩)
  go_ret
  exact ⟨rfl, rfl⟩

set_option maxHeartbeats 400000 in
theorem implClocksOk_c (v : Value) (l : List Int) (w : World) (h : rowC.V w [v] l) :
    Calls Try.prog 32 #[v] w fun e w' => e = .returned (.bool (clocksOk l)) ∧ w = w' := by
  obtain ⟨a, cap, rfl, h1, h2, hc⟩ := row_open h
  clear h
  by_cases hl : l.length = 6
  · have hl' : ((l.length : Int) != 6) = false := by rw [bne_eq_false_iff_eq]; omega
    have Hl := Lib.hid hl; clear hl
    go_enter Try.func32, Try.ntmps32
    go_wp2
    go_loop [4, 10] (fun _ i => ∃ k : Nat, k ≤ l.length ∧ i = .int .i64 k ∧ (l.take k).all timeOk = true) (fun _ i => l.length - (intOf i).toNat)
    case atStart => exact ⟨0, Nat.zero_le _, rfl, rfl⟩
    case round =>
      obtain ⟨k, hk, rfl, hp⟩ := hrel
      have Hp := Lib.hid hp; clear hp
      by_cases hlt : k < l.length
      · obtain ⟨b, off, x, rfl, hcell, hx⟩ := hc k hlt
        clear hc
        cases hin : timeOk x
        · have Hin := Lib.hid hin
          go_wp2_with (go_at_call 16; refine (implTimeOk_c _ _).mono ?_; rintro e w' ⟨rfl, rfl⟩)
          go_ret
          exact ⟨retB (by simp only [clocksOk, all_no hx Hin.out, Bool.and_false]), rfl⟩
        · have Hin := Lib.hid hin
          go_wp2_with (go_at_call 16; refine (implTimeOk_c _ _).mono ?_; rintro e w' ⟨rfl, rfl⟩)
          go_round
          case rel => exact ⟨k + 1, by omega, by go_num, all_take hx Hp.out Hin.out⟩
          case measure => simp [intOf]; omega
      · have he : k = l.length := by omega
        go_wp2
        go_ret
        exact ⟨retB (by subst he; have hp := Hp.out; simp only [List.take_length] at hp; simp [clocksOk, Hl.out, hp]), rfl⟩
  · have hl' : ((l.length : Int) != 6) = true := by rw [bne_iff_ne]; omega
    have Hl := Lib.hid hl; clear hl
    go_enter Try.func32, Try.ntmps32
    go_wp2
    go_ret
    exact ⟨retB (by simp [clocksOk, Hl.out]), rfl⟩

set_option maxHeartbeats 400000 in
theorem specClocksOk_c (v : Value) (l : List Int) (w : World) (h : rowC.V w [v] l) :
    Calls Try.prog 31 #[v] w fun e w' => e = .returned (.bool (clocksOk l)) ∧ w = w' := by
  obtain ⟨a, cap, rfl, h1, h2, hc⟩ := row_open h
  clear h
  by_cases hl : l.length = 6
  · have hl' : ((l.length : Int) != 6) = false := by rw [bne_eq_false_iff_eq]; omega
    have Hl := Lib.hid hl; clear hl
    go_enter Try.func31, Try.ntmps31
    go_wp2
    go_loop [3] (fun i => ∃ k : Nat, k ≤ l.length ∧ i = .int .i64 k ∧ (l.take k).all timeOk = true) (fun i => l.length - (intOf i).toNat)
    case atStart => exact ⟨0, Nat.zero_le _, rfl, rfl⟩
    case round =>
      obtain ⟨k, hk, rfl, hp⟩ := hrel
      have Hp := Lib.hid hp; clear hp
      by_cases hlt : k < l.length
      · obtain ⟨b, off, x, rfl, hcell, hx⟩ := hc k hlt
        clear hc
        cases hin : timeOk x
        · have Hin := Lib.hid hin
          go_wp2_with (go_at_call 15; refine (specTimeOk_c _ _).mono ?_; rintro e w' ⟨rfl, rfl⟩)
          go_ret
          exact ⟨retB (by simp only [clocksOk, all_no hx Hin.out, Bool.and_false]), rfl⟩
        · have Hin := Lib.hid hin
          go_wp2_with (go_at_call 15; refine (specTimeOk_c _ _).mono ?_; rintro e w' ⟨rfl, rfl⟩)
          go_round
          case rel => exact ⟨k + 1, by omega, by go_num, all_take hx Hp.out Hin.out⟩
          case measure => simp [intOf]; omega
      · have he : k = l.length := by omega
        go_wp2
        go_ret
        exact ⟨retB (by subst he; have hp := Hp.out; simp only [List.take_length] at hp; simp [clocksOk, Hl.out, hp]), rfl⟩
  · have hl' : ((l.length : Int) != 6) = true := by rw [bne_iff_ne]; omega
    have Hl := Lib.hid hl; clear hl
    go_enter Try.func31, Try.ntmps31
    go_wp2
    go_ret
    exact ⟨retB (by simp [clocksOk, Hl.out]), rfl⟩

set_option maxHeartbeats 400000 in
theorem szInt64S_c (v : Value) (l : List Int) (q : Int) (w : World) (h : rowC.V w [v] l) (h0 : -1 ≤ q) (h1 : q ≤ 1048576) :
    Calls Try.prog 51 #[v, .int .i64 q] w fun e w' => e = .returned (.int .i64 (szI l.length q)) ∧ w = w' := by
  obtain ⟨a, cap, rfl, h1, h2, hc⟩ := row_open h
  clear h hc
  go_enter Try.func51, Try.ntmps51
  by_cases hn : q - l.length < 0
  all_goals
    go_wp2
    go_ret
    exact ⟨retI (by simp [szI]; omega), rfl⟩

set_option maxHeartbeats 400000 in
theorem apart_c (x y : Int) (w : World) : Calls Try.prog 53 #[.int .i64 x, .int .i64 y] w fun e w' => e = .returned (.bool (apart x y)) ∧ w = w' := by
  cases hx : nodeOk x <;> cases hy : nodeOk y <;> by_cases hxy : x = y
  all_goals
    have Hxy := Lib.hid hxy
    first
      | (have hn : (x != y) = false := by rw [bne_eq_false_iff_eq]; exact hxy)
      | (have hn : (x != y) = true := by rw [bne_iff_ne]; exact hxy)
    clear hxy
    go_enter Try.func53, Try.ntmps53
    go_wp2_with (go_at_call 58; refine (nodeOk_c _ _).mono ?_; rintro e w' ⟨rfl, rfl⟩)
    go_ret
    exact ⟨retB (by simp [apart, hx, hy, Hxy.out]), rfl⟩

def withSum (l : List Int) : List Int := if rowOk l && decide (l.length < 48) then l ++ [chk l] else []

set_option maxHeartbeats 800000 in
theorem implWithSum_c (v : Value) (l : List Int) (w : World) (h : rowC.V w [v] l) :
    Calls Try.prog 43 #[v] w fun e w' => ∃ v', e = .returned v' ∧ Ext w w' ∧ rowC.own w.heap.size w'.heap.size w' [v'] (withSum l) := by
  have H := Lib.hid h
  obtain ⟨a, cap, rfl, h1, h2, hc⟩ := row_open h
  clear h hc
  cases hr : rowOk l
  · have hw : withSum l = [] := by simp [withSum, hr]
    rw [hw]; have Hw := Lib.hid hw; clear hw
    go_enter Try.func43, Try.ntmps43
    go_wp2_with (go_at_call 30; refine (implRowOk_c _ l _ H.out).mono ?_; rintro e w' ⟨rfl, rfl⟩)
    go_ret
    exact ⟨_, rfl, Ext.refl _, row_nil _ _ _⟩
  · have hlen := rowOk_len hr
    by_cases hl : l.length < 48
    · have hw : withSum l = l ++ [chk l] := by simp [withSum, hr, hl]
      rw [hw]; have Hw := Lib.hid hw; clear hw
      have hm := Lib.hid (fun x hx => rowOk_mem hr (x := x) hx)
      have hso : sumOf l = chk l := by simp [sumOf, hr]
      have Hso := Lib.hid hso; clear hso
      have hne : ((l.length : Int) == 48) = false := by rw [beq_eq_false_iff_ne]; omega
      go_enter Try.func43, Try.ntmps43
      go_wp2_with (first
        | (go_at_call 30; refine (implRowOk_c _ l _ H.out).mono ?_; rintro e w' ⟨rfl, rfl⟩)
        | (go_at_call 55; refine (copyRow_c _ l _ H.out (by omega)).mono ?_; rintro e w1 ⟨v', rfl, hE, hown⟩; obtain ⟨a', cap', rfl, h1', h2', hI, hb⟩ := row_take hown)
        | (go_at_call 50; refine (checksum_c _ l _ (rowC.vext H.out hE) hm.out).mono ?_; rintro e w' ⟨rfl, rfl⟩)
        | (at_builtin; refine wpList_append_ints _ rfl _ _ _ rfl 2 Try.underlying34 Try.infoI _ _ _ l rfl rfl (hI.ext (Ext.alloc _ _)) h1' h2' _ _ _ [chk l] rfl rfl (CellsAt.lit _ _ _) (by omega) ?_; intro a2 cap2 w3 hI3 hle3 hm3 hw3))
      go_ret
      refine ⟨_, rfl, hw3.ext (hE.trans (Ext.alloc _ _)) (fun b h => (hb b h).1), ?_⟩
      exact row_app (by first | exact hI3 | exact Hso.out ▸ hI3) (by simp) hle3 hm3 hw3 (by have := hE.size; simp; omega) (fun b h => (hb b h).1)
    · have hw : withSum l = [] := by simp [withSum, hr, hl]
      rw [hw]; have Hw := Lib.hid hw; clear hw
      have hne : ((l.length : Int) == 48) = true := by rw [beq_iff_eq]; omega
      go_enter Try.func43, Try.ntmps43
      go_wp2_with (go_at_call 30; refine (implRowOk_c _ l _ H.out).mono ?_; rintro e w' ⟨rfl, rfl⟩)
      go_ret
      exact ⟨_, rfl, Ext.refl _, row_nil _ _ _⟩

set_option maxHeartbeats 800000 in
theorem specWithSum_c (v : Value) (l : List Int) (w : World) (h : rowC.V w [v] l) :
    Calls Try.prog 42 #[v] w fun e w' => ∃ v', e = .returned v' ∧ Ext w w' ∧ rowC.own w.heap.size w'.heap.size w' [v'] (withSum l) := by
  have H := Lib.hid h
  obtain ⟨a, cap, rfl, h1, h2, hc⟩ := row_open h
  clear h hc
  cases hr : rowOk l
  · have hw : withSum l = [] := by simp [withSum, hr]
    rw [hw]; have Hw := Lib.hid hw; clear hw
    go_enter Try.func42, Try.ntmps42
    go_wp2_with (go_at_call 29; refine (specRowOk_c _ l _ H.out).mono ?_; rintro e w' ⟨rfl, rfl⟩)
    go_ret
    exact ⟨_, rfl, Ext.alloc _ _, row_empty _ _ _ (Nat.le_refl _)⟩
  · have hlen := rowOk_len hr
    by_cases hl : l.length < 48
    · have hw : withSum l = l ++ [chk l] := by simp [withSum, hr, hl]
      rw [hw]; have Hw := Lib.hid hw; clear hw
      have hm := Lib.hid (fun x hx => rowOk_mem hr (x := x) hx)
      have hso : sumOf l = chk l := by simp [sumOf, hr]
      have Hso := Lib.hid hso; clear hso
      have hne : ((l.length : Int) == 48) = false := by rw [beq_eq_false_iff_ne]; omega
      go_enter Try.func42, Try.ntmps42
      go_wp2_with (first
        | (go_at_call 29; refine (specRowOk_c _ l _ H.out).mono ?_; rintro e w' ⟨rfl, rfl⟩)
        | (go_at_call 54; refine (l1Copy_c _ l _ H.out (by omega)).mono ?_; rintro e w1 ⟨v', rfl, hE, hown⟩; obtain ⟨a', cap', rfl, h1', h2', hI, hb⟩ := row_take hown)
        | (go_at_call 35; refine (specSumOf_c _ l _ (rowC.vext H.out hE) ).mono ?_; rintro e w' ⟨rfl, rfl⟩)
        | (at_builtin; refine wpList_append_ints _ rfl _ _ _ rfl 2 Try.underlying34 Try.infoI _ _ _ l rfl rfl (hI.ext (Ext.alloc _ _)) h1' h2' _ _ _ [sumOf l] rfl rfl (CellsAt.lit _ _ _) (by omega) ?_; intro a2 cap2 w3 hI3 hle3 hm3 hw3))
      go_ret
      refine ⟨_, rfl, hw3.ext (hE.trans (Ext.alloc _ _)) (fun b h => (hb b h).1), ?_⟩
      exact row_app (by first | exact hI3 | exact Hso.out ▸ hI3) (by simp) hle3 hm3 hw3 (by have := hE.size; simp; omega) (fun b h => (hb b h).1)
    · have hw : withSum l = [] := by simp [withSum, hr, hl]
      rw [hw]; have Hw := Lib.hid hw; clear hw
      have hne : ((l.length : Int) == 48) = true := by rw [beq_iff_eq]; omega
      go_enter Try.func42, Try.ntmps42
      go_wp2_with (go_at_call 29; refine (specRowOk_c _ l _ H.out).mono ?_; rintro e w' ⟨rfl, rfl⟩)
      go_ret
      exact ⟨_, rfl, Ext.alloc _ _, row_empty _ _ _ (Nat.le_refl _)⟩

end Go.Proofs.Ythgpghgcjjejhaa
