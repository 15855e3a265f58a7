-- The kit's print wrote these words; a program of this session's (wprune.py) struck those that this claim doesn't lean on.
import Derived.Test.YtdnjlmoggnbknaaDoorWN
import Derived.Test.YtdnjlmoggnbknaaDoorWTab
-- The kit's print wrote these words; a program of this session's (wprune.py) struck those that this claim doesn't lean on.
/-! ### 52. A row that stays read whatever happens to a block (a set of blocks) doesn't lie there -/
namespace Go.Proofs.YtdnjlmoggnbknaaDoorW.PrintWords
open Go.RowKit
namespace Kd
section
variable {α : Type} {d : Kd α} {W : World} {g n : Nat} {S ok : Nat → Prop} {A : Option Addr} {ad : Addr} {xs : List α}
end
end Kd
end Go.Proofs.YtdnjlmoggnbknaaDoorW.PrintWords

-- The kit's print wrote these words; a program of this session's (wprune.py) struck those that this claim doesn't lean on.
/-! ### 54. Behind orders that were drawn quietly: the same facts at the world's new name; a flat row's foot -/
namespace Go.Proofs.YtdnjlmoggnbknaaDoorW.PrintWords
open Go.RowKit
section
variable {w w' u : World} {m B g : Nat} {o : Obj} {row : Option Nat} {S : Nat → Prop} {a : Addr} {v : Value}
theorem below_at (hq : w.drewN m = w') (h : Below B u w) : Below B u w' := by subst hq; exact pw_below_drewN h m
theorem blk_at (hq : w.drewN m = w') (h : w.heap[g]? = some o) : w'.heap[g]? = some o := by subst hq; exact h
end
namespace Kd
section
variable {α : Type} {d : Kd α} {e base n m : Nat} {ok : Nat → Prop} {w w' : World} {v : Value} {A : Option Addr} {xs : List α}
theorem R_at (hq : w.drewN m = w') (h : d.R e w base ok v xs) : d.R e w' base ok v xs := by subst hq; exact R_drewN h m
end
end Kd
end Go.Proofs.YtdnjlmoggnbknaaDoorW.PrintWords

-- The kit's print wrote these words; a program of this session's (wprune.py) struck those that this claim doesn't lean on.
/-! ### 57. A region of open order by ONE relation over what is listed so far: each operation is shown once, whatever came up before it -/
namespace Go.Proofs.YtdnjlmoggnbknaaDoorW.PrintLast
section
variable {P : Program} {ops : Array Oper} {Q : Exit → Act → World → Prop} {md : Region.Mode} {T : Bool × List (List Nat × List Nat)} {B : List Nat} {O : List Nat} {b : Nat → Bool} {i j n : Nat}
/-! The frame: what is listed has its destination filled. -/
end
end Go.Proofs.YtdnjlmoggnbknaaDoorW.PrintLast

-- The kit's print wrote these words; a program of this session's (wprune.py) struck those that this claim doesn't lean on.
namespace Go.Proofs.YtdnjlmoggnbknaaDoorW.PrintWords
open Go.RowKit
end Go.Proofs.YtdnjlmoggnbknaaDoorW.PrintWords
namespace Go.Proofs.YtdnjlmoggnbknaaDoorW.PrintLast
section
variable {ops : Array Oper} {a : Act} {o og : Oper} {g : Nat} {t : Tmp} {u : Bool}
end
end Go.Proofs.YtdnjlmoggnbknaaDoorW.PrintLast

-- The kit's print wrote these words; a program of this session's (wprune.py) struck those that this claim doesn't lean on.
/-! ### 56. Four, five, six operations that may come up next, in any order -/
namespace Go.Proofs.YtdnjlmoggnbknaaDoorW.PrintLast
section
variable {P : Program} {ops : Array Oper} {Q : Exit → Act → World → Prop} {md : Region.Mode} {S : World → Prop} {ds : List Nat} {T : Bool × List (List Nat × List Nat)}
end
end Go.Proofs.YtdnjlmoggnbknaaDoorW.PrintLast
