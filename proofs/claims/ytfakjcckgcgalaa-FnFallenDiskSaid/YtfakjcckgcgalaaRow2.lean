/- Rows: what the program's functions and the reference's compute. -/
import Derived.Test.YtfakjcckgcgalaaRow
set_option linter.unusedVariables false
set_option linter.unusedSimpArgs false
namespace Go.Proofs.Ytfakjcckgcgalaa
open Go.RowKit Go.Sl

def inB (x lo hi : Int) : Bool := decide (lo ≤ x) && decide (x ≤ hi)
def inRow (x : Int) : Bool := inB x 0 1000000000
def rowOk (l : List Int) : Bool := decide (l.length ≤ 48) && l.all inRow

theorem rowOk_long {l : List Int} (h : ¬ l.length ≤ 48) : rowOk l = false := by simp [rowOk, h]
theorem rowOk_len {l : List Int} (h : rowOk l = true) : l.length ≤ 48 := by simp [rowOk] at h; exact h.1
theorem inB_bd {x lo hi : Int} (h : inB x lo hi = true) : lo ≤ x ∧ x ≤ hi := by simpa [inB] using h
theorem rowOk_mem {l : List Int} (h : rowOk l = true) {x : Int} (hx : x ∈ l) : 0 ≤ x ∧ x ≤ 1000000000 := by
  simp only [rowOk, Bool.and_eq_true, List.all_eq_true] at h
  exact inB_bd (h.2 x hx)

def chk (l : List Int) : Int := l.foldl (fun s x => (131 * s + x + 1) % 999999937) 7
theorem chk_bd (l : List Int) : 0 ≤ chk l ∧ chk l < 999999937 := by
  unfold chk
  suffices h : ∀ s : Int, 0 ≤ s ∧ s < 999999937 → 0 ≤ l.foldl (fun s x => (131 * s + x + 1) % 999999937) s ∧ l.foldl (fun s x => (131 * s + x + 1) % 999999937) s < 999999937 from h 7 (by omega)
  induction l with
  | nil => intro s h; exact h
  | cons x l ih => intro s h; exact ih ((131 * s + x + 1) % 999999937) (by omega)
theorem chk_snoc (l : List Int) (x : Int) : chk (l ++ [x]) = (131 * chk l + x + 1) % 999999937 := by simp [chk, List.foldl_append]
def sumOf (l : List Int) : Int := if rowOk l then chk l else -1

theorem between_c (a b c : Int) (w : World) :
    Calls Try.prog 55 #[.int .i64 a, .int .i64 b, .int .i64 c] w fun e w' => e = .returned (.bool (inB a b c)) ∧ w = w' := by
  go_enter Try.func55, Try.ntmps55
  go_wp2
  all_goals
    go_ret
    exact ⟨by simp [inB]; omega, rfl⟩

theorem l1In_c (a b c : Int) (w : World) :
    Calls Try.prog 54 #[.int .i64 a, .int .i64 b, .int .i64 c] w fun e w' => e = .returned (.bool (inB a b c)) ∧ w = w' := by
  go_enter Try.func54, Try.ntmps54
  go_wp2
  all_goals
    go_ret
    exact ⟨by simp [inB]; omega, rfl⟩

set_option maxHeartbeats 400000 in
theorem copyRow_c (v : Value) (l : List Int) (w : World) (h : rowC.V w [v] l) (hs : l.length ≤ 2097152) :
    Calls Try.prog 71 #[v] w fun e w' => ∃ v', e = .returned v' ∧ Ext w w' ∧ rowC.own w.heap.size w'.heap.size w' [v'] l := by
  obtain ⟨a, cap, rfl, h1, h2, hc⟩ := row_cells h
  clear h
  go_enter Try.func71, Try.ntmps71
  go_wp2_with (at_builtin; refine wpList_append_ints _ rfl _ _ _ rfl 2 Try.underlying37 Try.infoI _ _ _ [] rfl rfl (ISl.lit _ [] _ _ rfl) (Nat.le_refl _) (by omega) _ _ _ l rfl rfl (hc.ext (Ext.alloc _ _)) (by omega) ?_)
  intro a' cap' w1 hI hle hm hw
  go_wp2
  go_ret
  exact ⟨_, rfl, hw.ext (Ext.alloc _ _) (by simp [ablk]), row_app hI (by simp) hle hm hw (by simp) (by simp [ablk])⟩

set_option maxHeartbeats 400000 in
theorem l1Copy_c (v : Value) (l : List Int) (w : World) (h : rowC.V w [v] l) (hs : l.length ≤ 2097152) :
    Calls Try.prog 70 #[v] w fun e w' => ∃ v', e = .returned v' ∧ Ext w w' ∧ rowC.own w.heap.size w'.heap.size w' [v'] l := by
  obtain ⟨a, cap, rfl, h1, h2, hc⟩ := row_cells h
  clear h
  go_enter Try.func70, Try.ntmps70
  go_wp2_with (at_builtin; refine wpList_append_ints _ rfl _ _ _ rfl 2 Try.underlying37 Try.infoI _ _ _ [] rfl rfl (ISl.lit _ [] _ _ rfl) (Nat.le_refl _) (by omega) _ _ _ l rfl rfl (hc.ext (Ext.alloc _ _)) (by omega) ?_)
  intro a' cap' w1 hI hle hm hw
  go_wp2
  go_ret
  exact ⟨_, rfl, hw.ext (Ext.alloc _ _) (by simp [ablk]), row_app hI (by simp) hle hm hw (by simp) (by simp [ablk])⟩

set_option maxHeartbeats 400000 in
theorem implRowOk_c (v : Value) (l : List Int) (w : World) (h : rowC.V w [v] l) :
    Calls Try.prog 68 #[v] w fun e w' => e = .returned (.bool (rowOk l)) ∧ w = w' := by
  obtain ⟨a, cap, rfl, h1, h2, hc⟩ := row_open h
  clear h
  by_cases hl : l.length ≤ 48
  · go_enter Try.func68, Try.ntmps68
    go_wp2
    go_loop [4, 10] (fun _ i => ∃ k : Nat, k ≤ l.length ∧ i = .int .i64 k ∧ (l.take k).all inRow = true) (fun _ i => l.length - (intOf i).toNat)
    case atStart => exact ⟨0, Nat.zero_le _, rfl, rfl⟩
    case round =>
      obtain ⟨k, hk, rfl, hp⟩ := hrel
      have Hp := Lib.hid hp; clear hp
      by_cases hlt : k < l.length
      · obtain ⟨b, off, x, rfl, hcell, hx⟩ := hc k hlt
        clear hc
        cases hin : inB x 0 1000000000
        · have Hin := Lib.hid hin
          go_wp2_with (go_at_call 55; refine (between_c _ _ _ _).mono ?_; rintro e w' ⟨rfl, rfl⟩)
          go_ret
          exact ⟨retB (by simp only [rowOk, all_no (p := inRow) hx Hin.out, Bool.and_false]), rfl⟩
        · have Hin := Lib.hid hin
          go_wp2_with (go_at_call 55; refine (between_c _ _ _ _).mono ?_; rintro e w' ⟨rfl, rfl⟩)
          go_round
          case rel => exact ⟨k + 1, by omega, by go_num, all_take (p := inRow) hx Hp.out Hin.out⟩
          case measure => simp [intOf]; omega
      · have he : k = l.length := by omega
        go_wp2
        go_ret
        exact ⟨retB (by subst he; have hp := Hp.out; simp only [List.take_length] at hp; simp [rowOk, hl, hp]), rfl⟩
  · go_enter Try.func68, Try.ntmps68
    go_wp2
    go_ret
    exact ⟨retB (rowOk_long hl).symm, rfl⟩

set_option maxHeartbeats 400000 in
theorem specRowOk_c (v : Value) (l : List Int) (w : World) (h : rowC.V w [v] l) :
    Calls Try.prog 64 #[v] w fun e w' => e = .returned (.bool (rowOk l)) ∧ w = w' := by
  obtain ⟨a, cap, rfl, h1, h2, hc⟩ := row_open h
  clear h
  by_cases hl : l.length ≤ 48
  · go_enter Try.func64, Try.ntmps64
    go_wp2
    go_loop [3] (fun i => ∃ k : Nat, k ≤ l.length ∧ i = .int .i64 k ∧ (l.take k).all inRow = true) (fun i => l.length - (intOf i).toNat)
    case atStart => exact ⟨0, Nat.zero_le _, rfl, rfl⟩
    case round =>
      obtain ⟨k, hk, rfl, hp⟩ := hrel
      have Hp := Lib.hid hp; clear hp
      by_cases hlt : k < l.length
      · obtain ⟨b, off, x, rfl, hcell, hx⟩ := hc k hlt
        clear hc
        cases hin : inB x 0 1000000000
        · have Hin := Lib.hid hin
          go_wp2_with (go_at_call 54; refine (l1In_c _ _ _ _).mono ?_; rintro e w' ⟨rfl, rfl⟩)
          go_ret
          exact ⟨retB (by simp only [rowOk, all_no (p := inRow) hx Hin.out, Bool.and_false]), rfl⟩
        · have Hin := Lib.hid hin
          go_wp2_with (go_at_call 54; refine (l1In_c _ _ _ _).mono ?_; rintro e w' ⟨rfl, rfl⟩)
          go_round
          case rel => exact ⟨k + 1, by omega, by go_num, all_take (p := inRow) hx Hp.out Hin.out⟩
          case measure => simp [intOf]; omega
      · have he : k = l.length := by omega
        go_wp2
        go_ret
        exact ⟨retB (by subst he; have hp := Hp.out; simp only [List.take_length] at hp; simp [rowOk, hl, hp]), rfl⟩
  · go_enter Try.func64, Try.ntmps64
    go_wp2
    go_ret
    exact ⟨retB (rowOk_long hl).symm, rfl⟩




end Go.Proofs.Ytfakjcckgcgalaa
