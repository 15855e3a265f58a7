/- The pure law of IntegerAdds: Add and Sub agree with the document's. No condition. -/
import Derived.Test.YtdnjlmoggnbknaaDoorRc
namespace Go.Proofs.YtdnjlmoggnbknaaDoor.PInt
open Go.RowKit Go.Proofs.YtdnjlmoggnbknaaDoor.Ext Go.Proofs.YtdnjlmoggnbknaaDoorW.PrintWords Go.Proofs.YtdnjlmoggnbknaaDoor.Dec
set_option linter.unusedVariables false
set_option linter.unusedSimpArgs false

theorem wide {z : Int} (h : z.natAbs < lim400) : z.natAbs < p10 1000 := Nat.lt_of_lt_of_le h (p10_mono (k := 400) (by decide))
theorem long_ev (s t : ByteArray) : cellarerlaw02_long.f s t = some (decide ((s.size : Int) > 420 ∨ (t.size : Int) > 420)) := by
  unfold cellarerlaw02_long.f
  by_cases h : (s.size : Int) > 420
  · rw [if_pos h, decide_eq_true (.inl h)]
  · rw [if_neg h]
    congr 1
    rw [decide_eq_decide]
    exact ⟨.inr, fun h' => h'.resolve_left h⟩
end Go.Proofs.YtdnjlmoggnbknaaDoor.PInt
