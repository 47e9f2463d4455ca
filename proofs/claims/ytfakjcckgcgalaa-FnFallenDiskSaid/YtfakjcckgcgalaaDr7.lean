/- The draws: whole arguments. -/
import Derived.Test.YtfakjcckgcgalaaDr6
set_option linter.unusedVariables false
set_option linter.unusedSimpArgs false
namespace Go.Proofs.Ytfakjcckgcgalaa
open Go.RowKit Go.Sl


end Go.Proofs.Ytfakjcckgcgalaa
