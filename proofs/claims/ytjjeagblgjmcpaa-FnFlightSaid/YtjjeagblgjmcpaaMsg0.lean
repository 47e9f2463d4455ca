/- Messages: how they read. -/
import Derived.Test.YtjjeagblgjmcpaaRow3
set_option linter.unusedVariables false
set_option linter.unusedSimpArgs false
namespace Go.Sl
open Go.RowKit

/-- One cell. -/
theorem one_cell {cs : List Value} (h : cs.length = 1) : ∃ v, cs = [v] := by
  match cs, h with
  | [v], _ => exact ⟨v, rfl⟩

def msgC : Cd (Int × Int × List Int) := prodC intC (prodC intC rowC)

theorem msg_V {w : World} {cs : List Value} {m : Int × Int × List Int} : msgC.V w cs m ↔ ∃ v, cs = [.int .i64 m.1, .int .i64 m.2.1, v] ∧ rowC.V w [v] m.2.2 := by
  constructor
  · rintro ⟨c, d, rfl, rfl, c', d', rfl, rfl, h⟩
    obtain ⟨v, rfl⟩ := one_cell (rowC.len h)
    exact ⟨v, rfl, h⟩
  · rintro ⟨v, rfl, h⟩
    exact ⟨[_], [_, v], rfl, rfl, [_], [v], rfl, rfl, h⟩

theorem msg_own {lo hi : Nat} {w : World} {cs : List Value} {m : Int × Int × List Int} : msgC.own lo hi w cs m ↔ ∃ v, cs = [.int .i64 m.1, .int .i64 m.2.1, v] ∧ rowC.own lo hi w [v] m.2.2 := by
  constructor
  · rintro ⟨fp, ⟨c, d, f, g, rfl, rfl, ⟨rfl, rfl⟩, c', d', f', g', rfl, rfl, ⟨rfl, rfl⟩, h⟩, hn, hb⟩
    obtain ⟨v, rfl⟩ := one_cell (rowC.len (rowC.view h))
    exact ⟨v, rfl, _, h, by simpa using hn, by simpa using hb⟩
  · rintro ⟨v, rfl, fp, h, hn, hb⟩
    exact ⟨fp, ⟨[_], [_, v], [], fp, rfl, rfl, ⟨rfl, rfl⟩, [_], [v], [], fp, rfl, rfl, ⟨rfl, rfl⟩, h⟩, hn, hb⟩

end Go.Sl
namespace Go.Proofs.Ytjjeagblgjmcpaa
open Go.RowKit Go.Sl

abbrev MsgD := Int × Int × List Int
def msgOk (m : MsgD) : Bool := apart m.1 m.2.1 && decide (0 < m.2.2.length) && rowOk m.2.2

set_option maxHeartbeats 800000 in
theorem implMsgOk_c (cs : List Value) (m : MsgD) (w : World) (h : msgC.V w cs m) :
    Calls Try.prog 28 #[.agg cs.toArray] w fun e w' => e = .returned (.bool (msgOk m)) ∧ Ext w w' := by
  obtain ⟨v, rfl, hr⟩ := msg_V.1 h
  clear h; have h := hr; clear hr
  obtain ⟨f, t, l⟩ := m
  simp only at h
  have H := Lib.hid h
  obtain ⟨a, cap, rfl, h1, h2, hc⟩ := row_open h
  clear h hc
  cases ha : apart f t
  · go_enter Try.func28, Try.ntmps28
    go_wp2_with (go_at_call 26; refine (apart_c _ _ _).mono ?_; rintro e w' ⟨rfl, rfl⟩)
    go_ret
    exact ⟨retB (by simp [msgOk, ha]), Ext.alloc _ _⟩
  · by_cases hl : 0 < l.length
    · go_enter Try.func28, Try.ntmps28
      go_wp2_with (first
        | (go_at_call 26; refine (apart_c _ _ _).mono ?_; rintro e w' ⟨rfl, rfl⟩)
        | (go_at_call 36; refine (implRowOk_c _ l _ (rowC.vext H.out (Ext.alloc _ _))).mono ?_; rintro e w' ⟨rfl, rfl⟩))
      go_ret
      exact ⟨retB (by simp [msgOk, ha, hl]), Ext.alloc _ _⟩
    · go_enter Try.func28, Try.ntmps28
      go_wp2_with (first
        | (go_at_call 26; refine (apart_c _ _ _).mono ?_; rintro e w' ⟨rfl, rfl⟩))
      go_ret
      exact ⟨retB (by simp [msgOk, ha, hl]), Ext.alloc _ _⟩





end Go.Proofs.Ytjjeagblgjmcpaa
