/- The draws: a generator. -/
import Derived.Test.YtfakjcckgcgalaaDr4
set_option linter.unusedVariables false
set_option linter.unusedSimpArgs false
namespace Go.Proofs.Ytfakjcckgcgalaa
open Go.RowKit Go.Sl


end Go.Proofs.Ytfakjcckgcgalaa
