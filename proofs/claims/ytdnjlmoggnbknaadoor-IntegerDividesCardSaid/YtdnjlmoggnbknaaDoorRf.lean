/- The pure law of IntegerMultiplies: Mul agrees with the document's. No condition. -/
import Derived.Test.YtdnjlmoggnbknaaDoorRe
namespace Go.Proofs.YtdnjlmoggnbknaaDoor.PInt
open Go.RowKit Go.Proofs.YtdnjlmoggnbknaaDoor.Ext Go.Proofs.YtdnjlmoggnbknaaDoorW.PrintWords Go.Proofs.YtdnjlmoggnbknaaDoor.Dec
set_option linter.unusedVariables false
set_option linter.unusedSimpArgs false

theorem wide_mul {x y : Int} (hx : x.natAbs < lim400) (hy : y.natAbs < lim400) : (x * y).natAbs < p10 1000 :=
  Nat.lt_of_lt_of_le (mul_lt (i := 400) (j := 400) hx hy) (p10_mono (by decide))
end Go.Proofs.YtdnjlmoggnbknaaDoor.PInt
