/- What the program's divide computes: quotient and remainder of two numbers by their limbs. No condition but sizes. -/
import Derived.Test.YtdnjlmoggnbknaaDoorIe
namespace Go.Proofs.YtdnjlmoggnbknaaDoor.PInt
open Go.RowKit Go.Proofs.YtdnjlmoggnbknaaDoor.Ext Go.Proofs.YtdnjlmoggnbknaaDoorW.PrintWords
set_option linter.unusedVariables false
set_option linter.unusedSimpArgs false
open L9 (cl cl_lv cl_ok cl_tight cl_len cl_nil lv pw okL)

/-- At most k limbs. -/
def lenle (n k : Nat) : Prop := (cl n).length ≤ k
theorem lenle_iff {n k : Nat} : lenle n k ↔ n < 1000000000 ^ k := cl_len k n
theorem len_mono {a b k j : Nat} (h : lenle b k) (hab : a ≤ b) (hk : k ≤ j) : lenle a j := by
  rw [lenle_iff] at *
  exact Nat.lt_of_le_of_lt hab (Nat.lt_of_lt_of_le h (Nat.pow_le_pow_right (by decide) hk))
theorem len_mul {a b i j : Nat} (ha : lenle a i) (hb : lenle b j) : lenle (a * b) (i + j) := by
  rw [lenle_iff] at *
  rw [Nat.pow_add]
  exact Nat.mul_lt_mul'' ha hb
theorem times_cl (a b : Nat) (ha : lenle a 1000) (hb : lenle b 1000) : Ev (fun k => integer_times.f k (cl a) (cl b)) (cl (a * b)) := by
  have h := times_ev (cl a) (cl b) (cl_ok _) (cl_ok _) (Nat.le_trans ha (by decide)) (Nat.le_trans hb (by decide))
  rw [cl_lv, cl_lv, show ((a : Int) * (b : Int)).toNat = a * b by rw [← Int.natCast_mul]; exact Int.toNat_natCast _] at h
  exact h
end Go.Proofs.YtdnjlmoggnbknaaDoor.PInt
