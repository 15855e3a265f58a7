-- The kit's print wrote these words; a program of this session's (wprune.py) struck those that this claim doesn't lean on.
import Derived.Test.YtdnjlmoggnbknaaDoorWInv
import Derived.Test.YtdnjlmoggnbknaaDoorWFootNe
namespace Go.Proofs.YtdnjlmoggnbknaaDoorW.PrintWords
open Go.RowKit
end Go.Proofs.YtdnjlmoggnbknaaDoorW.PrintWords
namespace Go.Proofs.YtdnjlmoggnbknaaDoorW.PrintLast
section
variable {ops : Array Oper} {a : Act} {o og : Oper} {g : Nat} {t : Tmp} {u : Bool}
end
end Go.Proofs.YtdnjlmoggnbknaaDoorW.PrintLast
