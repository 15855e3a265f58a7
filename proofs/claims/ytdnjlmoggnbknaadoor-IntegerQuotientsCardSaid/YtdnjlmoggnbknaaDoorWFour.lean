-- The kit's print wrote these words; a program of this session's (wprune.py) struck those that this claim doesn't lean on.
import Derived.Test.YtdnjlmoggnbknaaDoorWTab
/-! ### 56. Four, five, six operations that may come up next, in any order -/
namespace Go.Proofs.YtdnjlmoggnbknaaDoorW.PrintLast
section
variable {P : Program} {ops : Array Oper} {Q : Exit → Act → World → Prop} {md : Region.Mode} {S : World → Prop} {ds : List Nat} {T : Bool × List (List Nat × List Nat)}
end
end Go.Proofs.YtdnjlmoggnbknaaDoorW.PrintLast
