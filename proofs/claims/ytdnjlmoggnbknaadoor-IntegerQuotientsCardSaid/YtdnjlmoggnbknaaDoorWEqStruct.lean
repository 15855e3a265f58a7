-- The kit's print wrote these words; a program of this session's (wprune.py) struck those that this claim doesn't lean on.
import Derived.Test.YtdnjlmoggnbknaaDoorWWords
import Derived.Laws.StructEq
/-! ### 53. '==' of structs as_ one Bool -/
namespace Go.Proofs.YtdnjlmoggnbknaaDoorW.PrintWords
open Go.RowKit
section
variable {P : Program} {d : Nat} {xs ys : Array Value} {f : Field} {fs : List Field} {a b : Value} {r s : Bool} {w : World}
end
end Go.Proofs.YtdnjlmoggnbknaaDoorW.PrintWords
