/- What the program's divide computes: quotient and remainder of two numbers by their limbs. No condition but sizes. -/
import Derived.Test.YtdnjlmoggnbknaaDoorId
namespace Go.Proofs.YtdnjlmoggnbknaaDoor.PInt
open Go.RowKit Go.Proofs.YtdnjlmoggnbknaaDoor.Ext Go.Proofs.YtdnjlmoggnbknaaDoorW.PrintWords
set_option linter.unusedVariables false
set_option linter.unusedSimpArgs false
open L9 (cl cl_lv cl_ok cl_tight cl_len cl_nil lv pw okL)

/-- At most k limbs. -/
def lenle (n k : Nat) : Prop := (cl n).length ≤ k
theorem lenle_iff {n k : Nat} : lenle n k ↔ n < 1000000000 ^ k := cl_len k n
theorem len_mono {a b k j : Nat} (h : lenle b k) (hab : a ≤ b) (hk : k ≤ j) : lenle a j := by
  rw [lenle_iff] at *
  exact Nat.lt_of_le_of_lt hab (Nat.lt_of_lt_of_le h (Nat.pow_le_pow_right (by decide) hk))
theorem compare_cl (a b : Nat) (ha : lenle a 1000) : Ev (fun k => integer_compare.f k (cl a) (cl b)) (cmpI a b) := by
  have h := compare_ev (cl a) (cl b) (cl_ok _) (cl_ok _) (cl_tight _) (cl_tight _) (Nat.le_trans ha (by decide))
  rw [cl_lv, cl_lv] at h
  exact h
theorem minus_cl (a b : Nat) (hab : b ≤ a) (ha : lenle a 1000) : Ev (fun k => integer_minus.f k (cl a) (cl b)) (cl (a - b)) := by
  have hl : (cl b).length ≤ (cl a).length := by
    rcases Nat.lt_or_ge (cl a).length (cl b).length with h | h
    · have := L9.lt_of_len (cl_ok a) (cl_ok b) (cl_tight b) h
      rw [cl_lv, cl_lv] at this
      omega
    · exact h
  have h := minus_ev (cl a) (cl b) (cl_ok _) (cl_ok _) (by rw [cl_lv, cl_lv]; omega) hl (Nat.le_trans ha (by decide))
  rw [cl_lv, cl_lv, show ((a : Int) - (b : Int)).toNat = a - b by omega] at h
  exact h
theorem plus_cl (a b : Nat) (ha : lenle a 1000) (hb : lenle b 1000) : Ev (fun k => integer_plus.f k (cl a) (cl b)) (cl (a + b)) := by
  have h := plus_ev (cl a) (cl b) (cl_ok _) (cl_ok _) (Nat.le_trans ha (by decide)) (Nat.le_trans hb (by decide))
  rw [cl_lv, cl_lv, show ((a : Int) + (b : Int)).toNat = a + b by omega] at h
  exact h
theorem cmp_neg {x y : Int} : cmpI x y < 0 ↔ x < y := by
  unfold cmpI
  split
  · constructor <;> intro h <;> omega
  · split <;> constructor <;> intro h <;> omega
end Go.Proofs.YtdnjlmoggnbknaaDoor.PInt
