/- The pure laws of IntegerSmalls and IntegerRings: machine arithmetic within int64; addition and multiplication are commutative, associative and distributive. No condition. -/
import Derived.Test.YtdnjlmoggnbknaaDoorIi
namespace Go.Proofs.YtdnjlmoggnbknaaDoor.PInt
open Go.RowKit Go.Proofs.YtdnjlmoggnbknaaDoor.Ext Go.Proofs.YtdnjlmoggnbknaaDoorW.PrintWords Go.Proofs.YtdnjlmoggnbknaaDoor.Dec
set_option linter.unusedVariables false
set_option linter.unusedSimpArgs false
open L9 (cl cl_lv cl_ok cl_tight cl_len cl_nil lv pw okL)

def i64 (x : Int) : Prop := -9223372036854775808 ≤ x ∧ x ≤ 9223372036854775807
instance (x : Int) : Decidable (i64 x) := by unfold i64; infer_instance
theorem i64_lim {x : Int} (h : i64 x) : x.natAbs < p10 19 := by
  have : p10 19 = 10000000000000000000 := rfl
  unfold i64 at h
  omega
theorem smallI_in {x : Int} (h : i64 x) : smallI x = (x, true) := if_pos h
end Go.Proofs.YtdnjlmoggnbknaaDoor.PInt
