/- The document's integers, part three: cmp, digit, plus; Add, Neg, Sub. No condition. -/
import Derived.Test.YtdnjlmoggnbknaaDoorRb
namespace Go.Proofs.YtdnjlmoggnbknaaDoor.PInt
open Go.RowKit Go.Proofs.YtdnjlmoggnbknaaDoor.Ext Go.Proofs.YtdnjlmoggnbknaaDoorW.PrintWords Go.Proofs.YtdnjlmoggnbknaaDoor.Dec
set_option linter.unusedVariables false
set_option linter.unusedSimpArgs false

/-! digit and plus -/
/-! Add, Neg, Sub -/
end Go.Proofs.YtdnjlmoggnbknaaDoor.PInt
