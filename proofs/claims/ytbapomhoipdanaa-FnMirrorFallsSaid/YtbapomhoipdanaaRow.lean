/- The laws' helpers on rows of integers: what each call returns, and what it leaves. -/
import Derived.Test.YtbapomhoipdanaaRows
import Derived.Test.YtbapomhoipdanaaOps
set_option linter.unusedVariables false
set_option linter.unusedSimpArgs false
namespace Go.Proofs.Ytbapomhoipdanaa
open Go.RowKit Go.Sl

theorem Try.infoI : (Try.prog.info? 2).map (fun i => (i.zero, i.size, i.bytes)) = some (some (.int .i64 0), 1, 8) := by kernel_rfl

set_option maxHeartbeats 400000 in
theorem toInt64S_c (v : Value) (l : List Int) (w : World) (h : rowC.V w [v] l) (hs : l.length ≤ 2097152) :
    Calls Try.prog 26 #[v] w fun e w' => ∃ v', e = .returned v' ∧ Ext w w' ∧ rowC.own w.heap.size w'.heap.size w' [v'] l := by
  obtain ⟨a, cap, rfl, h1, h2, hc⟩ := row_open h
  clear h
  go_enter Try.func26, Try.ntmps26
  go_wp2_with (at_make; refine wpList_make_int _ rfl _ _ _ rfl 2 Try.underlying44 Try.infoI l.length rfl rfl ?b ?_)
  case b => omega
  intro w1 hI hE hz
  go_wp2
  go_loopw [4] (fun i wr => ∃ k : Nat, k ≤ l.length ∧ i = .int .i64 k ∧ ISl wr (some ⟨w.heap.size, 0, none⟩) l.length (l.take k ++ List.replicate (l.length - k) 0) ∧ Ext w wr) (fun i _ => l.length - (intOf i).toNat)
  case atStart => exact ⟨0, Nat.zero_le _, rfl, by simpa using hI, hE⟩
  case round =>
    clear hE hI hz
    obtain ⟨k, hk, rfl, hI, hE⟩ := hrel
    by_cases hlt : k < l.length
    · obtain ⟨b, off, x, rfl, hcell, hx⟩ := hc k hlt
      clear hc
      have hcw := cell_ext hcell hE
      obtain ⟨⟨y, hy, _⟩, hf, hst⟩ := ISl.store hI (j := k) (by simp; omega)
      simp only [Nat.zero_add] at hy hf hst
      clear hcell
      have Hst := Lib.hid (hst x); clear hst
      go_wp2
      go_roundw
      case rel =>
        obtain ⟨h1, h2⟩ := Hst.out
        exact ⟨k + 1, by omega, by go_num, by rw [← set_take_rep hx hlt]; exact h1, h2.ext hE (Nat.le_refl _)⟩
      case measure => simp [intOf]; omega
    · have he : k = l.length := by omega
      go_wp2
      go_ret
      subst he
      exact ⟨_, rfl, hE, row_own.2 ⟨_, _, rfl, Nat.le_refl _, by omega, by simpa using hI, by simp [ablk]; exact hI.blk⟩⟩

set_option maxHeartbeats 400000 in
theorem markInt64S_c (v : Value) (l : List Int) (q : Int) (w : World) (lo hi : Nat) (h : rowC.own lo hi w [v] l) (hq0 : 0 ≤ q) (hq : q + l.length ≤ 4611686018427387904) :
    Calls Try.prog 29 #[v, .int .i64 q] w fun e w' => e = .returned (.int .i64 (q + l.length)) ∧ Chg lo hi w w' ∧ w'.heap.size = w.heap.size ∧ rowC.own lo hi w' [v] (iota q l.length) := by
  obtain ⟨a, cap, rfl, h1, h2, hI, hb⟩ := row_own.1 h
  go_enter Try.func29, Try.ntmps29
  go_wp2
  go_loopw [1, 5] (fun u i wr => ∃ k : Nat, k ≤ l.length ∧ i = .int .i64 k ∧ u = .int .i64 (q + k) ∧ ISl wr a cap (iota q k ++ l.drop k) ∧ Chg lo hi w wr ∧ wr.heap.size = w.heap.size) (fun _ i _ => l.length - (intOf i).toNat)
  case atStart => exact ⟨0, Nat.zero_le _, rfl, by go_num, by simpa [iota] using hI, Chg.refl _ _ _, rfl⟩
  case round =>
    obtain ⟨k, hk, rfl, rfl, hI', hE, hz⟩ := hrel
    by_cases hlt : k < l.length
    · obtain ⟨b, off, rfl⟩ := ISl.some hI (by omega)
      obtain ⟨⟨y, hy, _⟩, hf, hst⟩ := ISl.store hI' (j := k) (by rw [List.length_append, iota_length, List.length_drop]; omega)
      have Hst := Lib.hid (hst (q + k)); clear hst
      have hb' := hb b (by simp [ablk])
      have Hz := Lib.hid hz
      clear hz
      go_wp2
      go_roundw
      case rel =>
        obtain ⟨h1, h2⟩ := Hst.out
        exact ⟨k + 1, by omega, by go_num, by go_num, by rw [← iota_set (hidget hlt)]; exact h1, hE.trans (h2.wide hb'.1 hb'.2), by simpa [World.setCell] using Hz.out⟩
      case measure => simp [intOf]; omega
    · have he : k = l.length := by omega
      have Hz := Lib.hid hz
      clear hz
      go_wp2
      go_ret
      subst he
      exact ⟨rfl, hE, Hz.out, row_own.2 ⟨a, cap, by rw [iota_length], by rw [iota_length]; exact h1, h2, by simpa using hI', hb⟩⟩

set_option maxHeartbeats 400000 in
theorem heldInt64S_c (v : Value) (l : List Int) (q : Int) (w : World) (h : rowC.V w [v] (iota q l.length)) (hq0 : 0 ≤ q) (hq : q + l.length ≤ 4611686018427387904) :
    Calls Try.prog 59 #[v, .int .i64 q] w fun e w' => e = .returned (.int .i64 (q + l.length)) ∧ Ext w w' := by
  obtain ⟨a, cap, rfl, h1, h2, hc⟩ := row_open h
  clear h
  rw [iota_length] at h1 hc ⊢
  go_enter Try.func59, Try.ntmps59
  go_wp2
  go_loop [1, 5] (fun u i => ∃ k : Nat, k ≤ l.length ∧ i = .int .i64 k ∧ u = .int .i64 (q + k)) (fun _ i => l.length - (intOf i).toNat)
  case atStart => exact ⟨0, Nat.zero_le _, rfl, by go_num⟩
  case round =>
    obtain ⟨k, hk, rfl, rfl⟩ := hrel
    by_cases hlt : k < l.length
    · obtain ⟨b, off, x, rfl, hcell, hx⟩ := hc k hlt
      clear hc
      have hx' : x = q + k := by have := hx.out; rw [iota_get _ _ _ hlt] at this; exact (Option.some.inj this).symm
      subst hx'
      go_wp2
      go_round
      case rel => exact ⟨k + 1, by omega, by go_num, by go_num⟩
      case measure => simp [intOf]; omega
    · have he : k = l.length := by omega
      go_wp2
      go_ret
      subst he
      exact ⟨rfl, Ext.refl _⟩


end Go.Proofs.Ytbapomhoipdanaa
