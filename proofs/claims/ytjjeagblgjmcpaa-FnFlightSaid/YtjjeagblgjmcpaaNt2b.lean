/- Networks: right, by the reference. -/
import Derived.Test.YtjjeagblgjmcpaaNt2
set_option linter.unusedVariables false
set_option linter.unusedSimpArgs false
namespace Go.Proofs.Ytjjeagblgjmcpaa
open Go.RowKit Go.Sl


end Go.Proofs.Ytjjeagblgjmcpaa
