/- The chapter's examples come out true; small laws that the pure laws of law02 share. No condition. -/
import Derived.Test.YtdnjlmoggnbknaaDoorIh
namespace Go.Proofs.YtdnjlmoggnbknaaDoor.PInt
open Go.RowKit Go.Proofs.YtdnjlmoggnbknaaDoor.Ext Go.Proofs.YtdnjlmoggnbknaaDoorW.PrintWords Go.Proofs.YtdnjlmoggnbknaaDoor.Dec
set_option linter.unusedVariables false
set_option linter.unusedSimpArgs false
open L9 (cl cl_lv cl_ok cl_tight cl_len cl_nil lv pw okL)

theorem awake_true : cellarerlaw02_awake.f 60 = some true := by decide +kernel
theorem awake_ev : Ev (fun k => cellarerlaw02_awake.f k) true := Ev.of (fun k => cellarerlaw02_awake.mono k) awake_true
/-- A canonical text's number. -/
theorem valid_num {s : ByteArray} (h : vB (lst s) = true) : ∃ z : Int, s = mkS (T z) ∧ z.natAbs < lim400 := by
  obtain ⟨z, h1, h2⟩ := T_vB h
  exact ⟨z, lst_inj (by rw [h1, lst_mkS]), h2⟩
end Go.Proofs.YtdnjlmoggnbknaaDoor.PInt
