/- The chapter's examples come out true; small laws that the pure laws of law02 share. No condition. -/
import Derived.Test.YtdnjlmoggnbknaaDoorIh
namespace Go.Proofs.YtdnjlmoggnbknaaDoor.PInt
open Go.RowKit Go.Proofs.YtdnjlmoggnbknaaDoor.Ext Go.Proofs.YtdnjlmoggnbknaaDoorW.PrintWords Go.Proofs.YtdnjlmoggnbknaaDoor.Dec
set_option linter.unusedVariables false
set_option linter.unusedSimpArgs false
open L9 (cl cl_lv cl_ok cl_tight cl_len cl_nil lv pw okL)

theorem awake_true : cellarerlaw02_awake.f 60 = some true := by decide +kernel
theorem awake_ev : Ev (fun k => cellarerlaw02_awake.f k) true := Ev.of (fun k => cellarerlaw02_awake.mono k) awake_true
theorem res_lt {z : Int} (h : z.natAbs < lim400) : res z = (mkS (T z), 0) := by unfold res; rw [if_pos h]
theorem p10_mul (a b : Nat) : p10 (a + b) = p10 a * p10 b := Nat.pow_add 10 a b
theorem mul_lt {x y : Int} {i j : Nat} (hx : x.natAbs < p10 i) (hy : y.natAbs < p10 j) : (x * y).natAbs < p10 (i + j) := by
  rw [Int.natAbs_mul, p10_mul]
  exact Nat.mul_lt_mul'' hx hy
/-- A canonical text's number. -/
theorem valid_num {s : ByteArray} (h : vB (lst s) = true) : ∃ z : Int, s = mkS (T z) ∧ z.natAbs < lim400 := by
  obtain ⟨z, h1, h2⟩ := T_vB h
  exact ⟨z, lst_inj (by rw [h1, lst_mkS]), h2⟩
theorem gcd_le' (a b : Nat) : Nat.gcd a b ≤ a + b := by
  rcases Nat.eq_zero_or_pos a with h | h
  · subst h; rw [Nat.gcd_zero_left]; omega
  · have := Nat.gcd_le_left b h; omega
end Go.Proofs.YtdnjlmoggnbknaaDoor.PInt
