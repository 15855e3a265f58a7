/- What the program's DivMod, Gcd, Cmp, Neg and Small compute of canonical texts; what all of them answer to other texts. No condition but sizes. -/
import Derived.Test.YtdnjlmoggnbknaaDoorIg
namespace Go.Proofs.YtdnjlmoggnbknaaDoor.PInt
open Go.RowKit Go.Proofs.YtdnjlmoggnbknaaDoor.Ext Go.Proofs.YtdnjlmoggnbknaaDoorW.PrintWords Go.Proofs.YtdnjlmoggnbknaaDoor.Dec
set_option linter.unusedVariables false
set_option linter.unusedSimpArgs false
open L9 (cl cl_lv cl_ok cl_tight cl_len cl_nil lv pw okL)

/-- Do the signs differ, and is there a remainder? -/
def off1 (x y : Int) : Bool := (decide (x < 0) != decide (y < 0)) && decide (x.natAbs % y.natAbs ≠ 0)
/-- The remainder. -/
def fr (x y : Int) : Int := if off1 x y = true then sg (decide (x < 0)) (x.natAbs % y.natAbs) + y else sg (decide (x < 0)) (x.natAbs % y.natAbs)
/-! texts that are not canonical -/
theorem mul_bad (s t : ByteArray) (hs : s.size ≤ 140737488351232) (ht : t.size ≤ 140737488351232) (h : (vB (lst s) && vB (lst t)) = false) : Ev (fun k => integer_Mul.f k s t) (mkS [], 3) := by
  unfold integer_Mul.f
  have hb := both_ev s t hs ht
  rw [h] at hb
  exact Ev.bind hb (Ev.congr (f := fun _ => some (mkS [], 3)) (fun k => if_neg (by decide)) (Ev.now _))
end Go.Proofs.YtdnjlmoggnbknaaDoor.PInt
