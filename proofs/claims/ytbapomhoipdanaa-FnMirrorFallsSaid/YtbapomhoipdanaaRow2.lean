/- Rows: what the program's functions and the reference's compute. -/
import Derived.Test.YtbapomhoipdanaaRow
set_option linter.unusedVariables false
set_option linter.unusedSimpArgs false
namespace Go.Proofs.Ytbapomhoipdanaa
open Go.RowKit Go.Sl

def inB (x lo hi : Int) : Bool := decide (lo ≤ x) && decide (x ≤ hi)
def inRow (x : Int) : Bool := inB x 0 1000000000
def rowOk (l : List Int) : Bool := decide (l.length ≤ 48) && l.all inRow

theorem rowOk_long {l : List Int} (h : ¬ l.length ≤ 48) : rowOk l = false := by simp [rowOk, h]
theorem rowOk_len {l : List Int} (h : rowOk l = true) : l.length ≤ 48 := by simp [rowOk] at h; exact h.1
theorem inB_bd {x lo hi : Int} (h : inB x lo hi = true) : lo ≤ x ∧ x ≤ hi := by simpa [inB] using h
theorem rowOk_mem {l : List Int} (h : rowOk l = true) {x : Int} (hx : x ∈ l) : 0 ≤ x ∧ x ≤ 1000000000 := by
  simp only [rowOk, Bool.and_eq_true, List.all_eq_true] at h
  exact inB_bd (h.2 x hx)

def chk (l : List Int) : Int := l.foldl (fun s x => (131 * s + x + 1) % 999999937) 7
theorem chk_bd (l : List Int) : 0 ≤ chk l ∧ chk l < 999999937 := by
  unfold chk
  suffices h : ∀ s : Int, 0 ≤ s ∧ s < 999999937 → 0 ≤ l.foldl (fun s x => (131 * s + x + 1) % 999999937) s ∧ l.foldl (fun s x => (131 * s + x + 1) % 999999937) s < 999999937 from h 7 (by omega)
  induction l with
  | nil => intro s h; exact h
  | cons x l ih => intro s h; exact ih ((131 * s + x + 1) % 999999937) (by omega)
theorem chk_snoc (l : List Int) (x : Int) : chk (l ++ [x]) = (131 * chk l + x + 1) % 999999937 := by simp [chk, List.foldl_append]
def sumOf (l : List Int) : Int := if rowOk l then chk l else -1

theorem between_c (a b c : Int) (w : World) :
    Calls Try.prog 80 #[.int .i64 a, .int .i64 b, .int .i64 c] w fun e w' => e = .returned (.bool (inB a b c)) ∧ w = w' := by
  go_enter Try.func80, Try.ntmps80
  go_wp2
  all_goals
    go_ret
    exact ⟨by simp [inB]; omega, rfl⟩

theorem l1In_c (a b c : Int) (w : World) :
    Calls Try.prog 87 #[.int .i64 a, .int .i64 b, .int .i64 c] w fun e w' => e = .returned (.bool (inB a b c)) ∧ w = w' := by
  go_enter Try.func87, Try.ntmps87
  go_wp2
  all_goals
    go_ret
    exact ⟨by simp [inB]; omega, rfl⟩

set_option maxHeartbeats 400000 in
theorem copyRow_c (v : Value) (l : List Int) (w : World) (h : rowC.V w [v] l) (hs : l.length ≤ 2097152) :
    Calls Try.prog 91 #[v] w fun e w' => ∃ v', e = .returned v' ∧ Ext w w' ∧ rowC.own w.heap.size w'.heap.size w' [v'] l := by
  obtain ⟨a, cap, rfl, h1, h2, hc⟩ := row_cells h
  clear h
  go_enter Try.func91, Try.ntmps91
  go_wp2_with (at_builtin; refine wpList_append_ints _ rfl _ _ _ rfl 2 Try.underlying44 Try.infoI _ _ _ [] rfl rfl (ISl.lit _ [] _ _ rfl) (Nat.le_refl _) (by omega) _ _ _ l rfl rfl (hc.ext (Ext.alloc _ _)) (by omega) ?_)
  intro a' cap' w1 hI hle hm hw
  go_wp2
  go_ret
  exact ⟨_, rfl, hw.ext (Ext.alloc _ _) (by simp [ablk]), row_app hI (by simp) hle hm hw (by simp) (by simp [ablk])⟩

set_option maxHeartbeats 400000 in
theorem l1Copy_c (v : Value) (l : List Int) (w : World) (h : rowC.V w [v] l) (hs : l.length ≤ 2097152) :
    Calls Try.prog 88 #[v] w fun e w' => ∃ v', e = .returned v' ∧ Ext w w' ∧ rowC.own w.heap.size w'.heap.size w' [v'] l := by
  obtain ⟨a, cap, rfl, h1, h2, hc⟩ := row_cells h
  clear h
  go_enter Try.func88, Try.ntmps88
  go_wp2_with (at_builtin; refine wpList_append_ints _ rfl _ _ _ rfl 2 Try.underlying44 Try.infoI _ _ _ [] rfl rfl (ISl.lit _ [] _ _ rfl) (Nat.le_refl _) (by omega) _ _ _ l rfl rfl (hc.ext (Ext.alloc _ _)) (by omega) ?_)
  intro a' cap' w1 hI hle hm hw
  go_wp2
  go_ret
  exact ⟨_, rfl, hw.ext (Ext.alloc _ _) (by simp [ablk]), row_app hI (by simp) hle hm hw (by simp) (by simp [ablk])⟩

set_option maxHeartbeats 400000 in
theorem implRowOk_c (v : Value) (l : List Int) (w : World) (h : rowC.V w [v] l) :
    Calls Try.prog 92 #[v] w fun e w' => e = .returned (.bool (rowOk l)) ∧ w = w' := by
  obtain ⟨a, cap, rfl, h1, h2, hc⟩ := row_open h
  clear h
  by_cases hl : l.length ≤ 48
  · go_enter Try.func92, Try.ntmps92
    go_wp2
    go_loop [4, 10] (fun _ i => ∃ k : Nat, k ≤ l.length ∧ i = .int .i64 k ∧ (l.take k).all inRow = true) (fun _ i => l.length - (intOf i).toNat)
    case atStart => exact ⟨0, Nat.zero_le _, rfl, rfl⟩
    case round =>
      obtain ⟨k, hk, rfl, hp⟩ := hrel
      have Hp := Lib.hid hp; clear hp
      by_cases hlt : k < l.length
      · obtain ⟨b, off, x, rfl, hcell, hx⟩ := hc k hlt
        clear hc
        cases hin : inB x 0 1000000000
        · have Hin := Lib.hid hin
          go_wp2_with (go_at_call 80; refine (between_c _ _ _ _).mono ?_; rintro e w' ⟨rfl, rfl⟩)
          go_ret
          exact ⟨retB (by simp only [rowOk, all_no (p := inRow) hx Hin.out, Bool.and_false]), rfl⟩
        · have Hin := Lib.hid hin
          go_wp2_with (go_at_call 80; refine (between_c _ _ _ _).mono ?_; rintro e w' ⟨rfl, rfl⟩)
          go_round
          case rel => exact ⟨k + 1, by omega, by go_num, all_take (p := inRow) hx Hp.out Hin.out⟩
          case measure => simp [intOf]; omega
      · have he : k = l.length := by omega
        go_wp2
        go_ret
        exact ⟨retB (by subst he; have hp := Hp.out; simp only [List.take_length] at hp; simp [rowOk, hl, hp]), rfl⟩
  · go_enter Try.func92, Try.ntmps92
    go_wp2
    go_ret
    exact ⟨retB (rowOk_long hl).symm, rfl⟩

set_option maxHeartbeats 400000 in
theorem specRowOk_c (v : Value) (l : List Int) (w : World) (h : rowC.V w [v] l) :
    Calls Try.prog 89 #[v] w fun e w' => e = .returned (.bool (rowOk l)) ∧ w = w' := by
  obtain ⟨a, cap, rfl, h1, h2, hc⟩ := row_open h
  clear h
  by_cases hl : l.length ≤ 48
  · go_enter Try.func89, Try.ntmps89
    go_wp2
    go_loop [3] (fun i => ∃ k : Nat, k ≤ l.length ∧ i = .int .i64 k ∧ (l.take k).all inRow = true) (fun i => l.length - (intOf i).toNat)
    case atStart => exact ⟨0, Nat.zero_le _, rfl, rfl⟩
    case round =>
      obtain ⟨k, hk, rfl, hp⟩ := hrel
      have Hp := Lib.hid hp; clear hp
      by_cases hlt : k < l.length
      · obtain ⟨b, off, x, rfl, hcell, hx⟩ := hc k hlt
        clear hc
        cases hin : inB x 0 1000000000
        · have Hin := Lib.hid hin
          go_wp2_with (go_at_call 87; refine (l1In_c _ _ _ _).mono ?_; rintro e w' ⟨rfl, rfl⟩)
          go_ret
          exact ⟨retB (by simp only [rowOk, all_no (p := inRow) hx Hin.out, Bool.and_false]), rfl⟩
        · have Hin := Lib.hid hin
          go_wp2_with (go_at_call 87; refine (l1In_c _ _ _ _).mono ?_; rintro e w' ⟨rfl, rfl⟩)
          go_round
          case rel => exact ⟨k + 1, by omega, by go_num, all_take (p := inRow) hx Hp.out Hin.out⟩
          case measure => simp [intOf]; omega
      · have he : k = l.length := by omega
        go_wp2
        go_ret
        exact ⟨retB (by subst he; have hp := Hp.out; simp only [List.take_length] at hp; simp [rowOk, hl, hp]), rfl⟩
  · go_enter Try.func89, Try.ntmps89
    go_wp2
    go_ret
    exact ⟨retB (rowOk_long hl).symm, rfl⟩

set_option maxHeartbeats 400000 in
theorem checksum_c (v : Value) (l : List Int) (w : World) (h : rowC.V w [v] l) (hr : ∀ x ∈ l, 0 ≤ x ∧ x ≤ 1000000000) :
    Calls Try.prog 93 #[v] w fun e w' => e = .returned (.int .i64 (chk l)) ∧ w = w' := by
  obtain ⟨a, cap, rfl, h1, h2, hc⟩ := row_open h
  clear h
  go_enter Try.func93, Try.ntmps93
  go_wp2
  go_loop [3, 5, 8] (fun s _ i => ∃ k : Nat, k ≤ l.length ∧ i = .int .i64 k ∧ s = .int .i64 (chk (l.take k))) (fun _ _ i => l.length - (intOf i).toNat)
  case atStart => exact ⟨0, Nat.zero_le _, rfl, rfl⟩
  case round =>
    obtain ⟨k, hk, rfl, rfl⟩ := hrel
    by_cases hlt : k < l.length
    · obtain ⟨b, off, x, rfl, hcell, hx⟩ := hc k hlt
      have hxb := hr x (List.mem_of_getElem? hx.out)
      clear hc hr
      have hsn := Lib.hid ((congrArg chk (take_snoc hx)).trans (chk_snoc _ _))
      obtain ⟨hb1, hb2⟩ := chk_bd (l.take k)
      obtain ⟨hx1, hx2⟩ := hxb
      generalize chk (l.take k) = s at *
      go_wp2
      go_round
      case rel => exact ⟨k + 1, by omega, by go_num, by rw [hsn.out]⟩
      case measure => simp [intOf]; omega
    · have he : k = l.length := by omega
      have He := Lib.hid he; clear he
      go_wp2
      go_ret
      exact ⟨retI (by rw [He.out, List.take_length]), rfl⟩


set_option maxHeartbeats 400000 in
theorem specSumOf_c (v : Value) (l : List Int) (w : World) (h : rowC.V w [v] l) :
    Calls Try.prog 90 #[v] w fun e w' => e = .returned (.int .i64 (sumOf l)) ∧ w = w' := by
  have H := Lib.hid h
  obtain ⟨a, cap, rfl, h1, h2, hc⟩ := row_open h
  clear h
  cases hr : rowOk l
  · go_enter Try.func90, Try.ntmps90
    go_wp2_with (first | (go_at_call 89; refine (specRowOk_c _ l _ H.out).mono ?_; rintro e w' ⟨rfl, rfl⟩))
    go_ret
    exact ⟨retI (by simp [sumOf, hr]), rfl⟩
  · have hm := Lib.hid (fun x hx => rowOk_mem hr (x := x) hx)
    go_enter Try.func90, Try.ntmps90
    go_wp2_with (first | (go_at_call 89; refine (specRowOk_c _ l _ H.out).mono ?_; rintro e w' ⟨rfl, rfl⟩))
    go_loop [3, 4] (fun s i => ∃ k : Nat, k ≤ l.length ∧ i = .int .i64 k ∧ s = .int .i64 (chk (l.take k))) (fun _ i => l.length - (intOf i).toNat)
    case atStart => exact ⟨0, Nat.zero_le _, rfl, rfl⟩
    case round =>
      obtain ⟨k, hk, rfl, rfl⟩ := hrel
      by_cases hlt : k < l.length
      · obtain ⟨b, off, x, rfl, hcell, hx⟩ := hc k hlt
        have hxb := hm.out x (List.mem_of_getElem? hx.out)
        clear hc hm H
        have hsn := Lib.hid ((congrArg chk (take_snoc hx)).trans (chk_snoc _ _))
        obtain ⟨hb1, hb2⟩ := chk_bd (l.take k)
        obtain ⟨hx1, hx2⟩ := hxb
        generalize chk (l.take k) = s at *
        go_wp2
        go_round
        case rel => exact ⟨k + 1, by omega, by go_num, by rw [hsn.out]⟩
        case measure => simp [intOf]; omega
      · have he : k = l.length := by omega
        have He := Lib.hid he; clear he
        go_wp2
        go_ret
        exact ⟨retI (by rw [He.out, List.take_length]; simp [sumOf, hr]), rfl⟩

end Go.Proofs.Ytbapomhoipdanaa
