/- What the program's compare, minus, plus and times compute on lists of limbs: they compare, subtract, add and multiply the values. No condition but sizes. -/
import Derived.Test.YtdnjlmoggnbknaaDoorIb
namespace Go.Proofs.YtdnjlmoggnbknaaDoor.PInt
open Go.RowKit Go.Proofs.YtdnjlmoggnbknaaDoor.Ext Go.Proofs.YtdnjlmoggnbknaaDoorW.PrintWords
set_option linter.unusedVariables false
set_option linter.unusedSimpArgs false

theorem set_mid {α : Type} (p : List α) (x v : α) (r : List α) {i : Int} (hi : i = p.length) : (p ++ x :: r).set i.toNat v = (p ++ [v]) ++ r := by
  subst hi
  rw [Int.toNat_natCast, List.set_append_right _ _ (Nat.le_refl _), Nat.sub_self, List.set_cons_zero]
  simp
end Go.Proofs.YtdnjlmoggnbknaaDoor.PInt
