/- The laws' helpers on rows of integers: what each call returns, and what it leaves. -/
import Derived.Test.YtjjeagblgjmcpaaRows
import Derived.Test.YtjjeagblgjmcpaaOps
set_option linter.unusedVariables false
set_option linter.unusedSimpArgs false
namespace Go.Proofs.Ytjjeagblgjmcpaa
open Go.RowKit Go.Sl

theorem Try.infoI : (Try.prog.info? 2).map (fun i => (i.zero, i.size, i.bytes)) = some (some (.int .i64 0), 1, 8) := by kernel_rfl


end Go.Proofs.Ytjjeagblgjmcpaa
