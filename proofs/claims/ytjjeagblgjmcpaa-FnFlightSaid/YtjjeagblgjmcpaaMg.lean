/- Slices of messages: the laws' helpers on them. -/
import Derived.Test.YtjjeagblgjmcpaaRws
import Derived.Test.YtjjeagblgjmcpaaMsg0
import Derived.StillTailTactics
set_option linter.unusedVariables false
set_option linter.unusedSimpArgs false
namespace Go.Sl
open Go.RowKit

theorem msg_O {w : World} {cs : List Value} {m : Int × Int × List Int} {fp : List Nat} : msgC.O w cs m fp ↔ ∃ v, cs = [.int .i64 m.1, .int .i64 m.2.1, v] ∧ rowC.O w [v] m.2.2 fp := by
  constructor
  · rintro ⟨c, d, f, g, rfl, rfl, ⟨rfl, rfl⟩, c', d', f', g', rfl, rfl, ⟨rfl, rfl⟩, h⟩
    obtain ⟨v, rfl⟩ := one_cell (rowC.len (rowC.view h))
    exact ⟨v, rfl, h⟩
  · rintro ⟨v, rfl, h⟩
    exact ⟨[_], [_, v], [], fp, rfl, rfl, ⟨rfl, rfl⟩, [_], [v], [], fp, rfl, rfl, ⟨rfl, rfl⟩, h⟩

end Go.Sl
namespace Go.Proofs.Ytjjeagblgjmcpaa
open Go.RowKit Go.Sl

abbrev msgsC : Cd (List MsgD) := sliceC msgC
def mcnt (m : MsgD) : Nat := 2 + m.2.2.length
def mmk (q : Int) (m : MsgD) : MsgD := (q, q + 1, iota (q + 1 + 1) m.2.2.length)
/-- What a message takes of the bound: its row. -/
def msz (m : MsgD) : Nat := m.2.2.length









end Go.Proofs.Ytjjeagblgjmcpaa
