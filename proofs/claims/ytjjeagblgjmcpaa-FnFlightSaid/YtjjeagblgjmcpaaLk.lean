/- Links: how they read, and the laws' helpers on them. -/
import Derived.Test.YtjjeagblgjmcpaaMg
set_option linter.unusedVariables false
set_option linter.unusedSimpArgs false
namespace Go.Sl
open Go.RowKit

def linkC : Cd (Int × Int) := prodC intC intC

theorem link_V {w : World} {cs : List Value} {m : Int × Int} : linkC.V w cs m ↔ cs = [.int .i64 m.1, .int .i64 m.2] := by
  constructor
  · rintro ⟨c, d, rfl, rfl, rfl⟩; rfl
  · rintro rfl; exact ⟨[_], [_], rfl, rfl, rfl⟩

theorem link_O {w : World} {cs : List Value} {m : Int × Int} {fp : List Nat} : linkC.O w cs m fp ↔ cs = [.int .i64 m.1, .int .i64 m.2] ∧ fp = [] := by
  constructor
  · rintro ⟨c, d, f, g, rfl, rfl, ⟨rfl, rfl⟩, rfl, rfl⟩; exact ⟨rfl, rfl⟩
  · rintro ⟨rfl, rfl⟩; exact ⟨[_], [_], [], [], rfl, rfl, ⟨rfl, rfl⟩, rfl, rfl⟩

theorem link_own {lo hi : Nat} {w : World} {cs : List Value} {m : Int × Int} : linkC.own lo hi w cs m ↔ cs = [.int .i64 m.1, .int .i64 m.2] := by
  constructor
  · rintro ⟨fp, h, _, _⟩; exact (link_O.1 h).1
  · rintro rfl; exact ⟨[], link_O.2 ⟨rfl, rfl⟩, List.nodup_nil, by simp⟩

end Go.Sl
namespace Go.Proofs.Ytjjeagblgjmcpaa
open Go.RowKit Go.Sl

abbrev LinkD := Int × Int
abbrev linksC : Cd (List LinkD) := sliceC linkC
def lcnt (m : LinkD) : Nat := 2
def lmk (q : Int) (m : LinkD) : LinkD := (q, q + 1)
theorem cntL_lcnt (l : List LinkD) : cntL lcnt l = 2 * l.length := by
  induction l with
  | nil => rfl
  | cons x l ih => simp only [cntL, ih, List.length_cons, lcnt]; omega








end Go.Proofs.Ytjjeagblgjmcpaa
