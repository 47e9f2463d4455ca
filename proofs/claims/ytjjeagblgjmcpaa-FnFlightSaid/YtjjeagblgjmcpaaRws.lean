/- Slices of rows: to, eq, mark, held, sz. -/
import Derived.Test.YtjjeagblgjmcpaaRow3
import Derived.Test.YtjjeagblgjmcpaaGen
set_option linter.unusedVariables false
set_option linter.unusedSimpArgs false
namespace Go.Proofs.Ytjjeagblgjmcpaa
open Go.RowKit Go.Sl

abbrev rowsC : Cd (List (List Int)) := sliceC rowC
def rcnt (r : List Int) : Nat := r.length
def rmk (q : Int) (r : List Int) : List Int := iota q r.length

theorem u_slice {w : World} {u : Value} {x : List Int} (h : rowC.V w [u] x) : ∃ a c, u = .slice a x.length c := let ⟨a, c, h, _⟩ := row_open h; ⟨a, c, h⟩









end Go.Proofs.Ytjjeagblgjmcpaa
