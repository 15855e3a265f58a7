/- What the program's Add, Sub, Mul, DivMod, Gcd, Cmp, Neg, Small and Of compute of canonical texts: the texts of the numbers' sum, difference, product, floored quotient and remainder, greatest common divisor, order, opposite; of other texts: the error. No condition but sizes. -/
import Derived.Test.YtdnjlmoggnbknaaDoorIf
import Derived.Test.YtdnjlmoggnbknaaDoorIc
namespace Go.Proofs.YtdnjlmoggnbknaaDoor.PInt
open Go.RowKit Go.Proofs.YtdnjlmoggnbknaaDoor.Ext Go.Proofs.YtdnjlmoggnbknaaDoorW.PrintWords Go.Proofs.YtdnjlmoggnbknaaDoor.Dec
set_option linter.unusedVariables false
set_option linter.unusedSimpArgs false
open L9 (cl cl_lv cl_ok cl_tight cl_len cl_nil lv pw okL)

theorem p10_le {k j : Nat} (h : k ≤ 9 * j) : p10 k ≤ 1000000000 ^ j := by
  have e : (1000000000 : Nat) ^ j = 10 ^ (9 * j) := by rw [show (1000000000 : Nat) = 10 ^ 9 from rfl, ← Nat.pow_mul]
  rw [e]
  exact Nat.pow_le_pow_right (by decide) h
theorem p10_mono {k j : Nat} (h : k ≤ j) : p10 k ≤ p10 j := Nat.pow_le_pow_right (by decide) h
theorem len_lim {n : Nat} (h : n < lim400) : lenle n 45 := lenle_iff.2 (Nat.lt_of_lt_of_le h (p10_le (by decide)))
/-- A number as the program has it. -/
def num (z : Int) : Bool × List Int := (decide (z < 0), cl z.natAbs)
def sg (neg : Bool) (n : Nat) : Int := if neg = true then -(n : Int) else n
theorem sg_abs (neg : Bool) (n : Nat) : (sg neg n).natAbs = n := by
  unfold sg
  split <;> omega
theorem signed_sg (neg : Bool) (n : Nat) : integer_signed.f neg (cl n) = some (num (sg neg n)) := by
  unfold integer_signed.f num
  rw [sg_abs]
  have hl : ((cl n).length : Int) > 0 ↔ n ≠ 0 := by
    have : (cl n).length = 0 ↔ cl n = [] := List.length_eq_zero_iff
    rw [cl_nil] at this
    omega
  cases neg with
  | true =>
    rw [if_pos rfl]
    congr 2
    rw [decide_eq_decide, hl]
    unfold sg
    rw [if_pos rfl]
    omega
  | false =>
    rw [if_neg (by decide)]
    congr 2
theorem add_num (x y : Int) (hx : lenle x.natAbs 900) (hy : lenle y.natAbs 900) : Ev (fun k => integer_add.f k (num x).1 (num x).2 (num y).1 (num y).2) (num (x + y)) := by
  unfold integer_add.f
  have hx' := len_mono (j := 1000) hx (Nat.le_refl _) (by decide)
  have hy' := len_mono (j := 1000) hy (Nat.le_refl _) (by decide)
  have hsx : (num x).1 = decide (x < 0) := rfl
  have hsy : (num y).1 = decide (y < 0) := rfl
  have h2x : (num x).2 = cl x.natAbs := rfl
  have h2y : (num y).2 = cl y.natAbs := rfl
  by_cases hs : (decide (x < 0) == decide (y < 0)) = true
  · refine Ev.congr (fun k => by rw [hsx, hsy, if_pos hs, h2x, h2y]) ?_
    have e : decide (x < 0) = decide (y < 0) := by simpa using hs
    have ev : sg (decide (x < 0)) (x.natAbs + y.natAbs) = x + y := by
      have h1 := decide_eq_decide.1 e
      unfold sg
      by_cases h : x < 0
      · rw [if_pos (decide_eq_true h)]; have := h1.1 h; omega
      · rw [if_neg (by simpa using h)]; have : ¬ y < 0 := fun hy => h (h1.2 hy); omega
    refine Ev.bind (plus_cl _ _ hx' hy') (Ev.congr (f := fun _ => some (num (x + y))) (fun k => ?_) (Ev.now _))
    rw [signed_sg, ev, Option.bind_some]
  · refine Ev.congr (fun k => by rw [hsx, hsy, if_neg hs, h2x, h2y]) ?_
    have e : decide (x < 0) ≠ decide (y < 0) := by simpa using hs
    have h1 : ¬ (x < 0 ↔ y < 0) := fun h => e (decide_eq_decide.2 h)
    refine Ev.bind (compare_cl _ _ hx') ?_
    by_cases hc : y.natAbs ≤ x.natAbs
    · have ev : sg (decide (x < 0)) (x.natAbs - y.natAbs) = x + y := by
        unfold sg
        by_cases h : x < 0
        · rw [if_pos (decide_eq_true h)]; have : ¬ y < 0 := fun hy => h1 ⟨fun _ => hy, fun _ => h⟩; omega
        · rw [if_neg (by simpa using h)]; have : y < 0 := by rcases Int.lt_or_le y 0 with hy | hy; exact hy; exact absurd ⟨fun h' => absurd h' h, fun h' => by omega⟩ h1
          omega
      have hge : cmpI (x.natAbs : Int) (y.natAbs : Int) ≥ 0 := by
        rcases Int.lt_or_le (cmpI (x.natAbs : Int) (y.natAbs : Int)) 0 with h | h
        · have := cmp_neg.1 h; omega
        · exact h
      refine Ev.congr (fun k => if_pos hge) ?_
      refine Ev.bind (minus_cl _ _ hc hx') (Ev.congr (f := fun _ => some (num (x + y))) (fun k => ?_) (Ev.now _))
      rw [signed_sg, ev, Option.bind_some]
    · have ev : sg (decide (y < 0)) (y.natAbs - x.natAbs) = x + y := by
        unfold sg
        by_cases h : y < 0
        · rw [if_pos (decide_eq_true h)]; have : ¬ x < 0 := fun hx => h1 ⟨fun _ => h, fun _ => hx⟩; omega
        · rw [if_neg (by simpa using h)]; have : x < 0 := by rcases Int.lt_or_le x 0 with hx | hx; exact hx; exact absurd ⟨fun h' => by omega, fun h' => absurd h' h⟩ h1
          omega
      have hlt : ¬ cmpI (x.natAbs : Int) (y.natAbs : Int) ≥ 0 := by
        have := cmp_neg.2 (show (x.natAbs : Int) < (y.natAbs : Int) by omega); omega
      refine Ev.congr (fun k => if_neg hlt) ?_
      refine Ev.bind (minus_cl _ _ (by omega) hy') (Ev.congr (f := fun _ => some (num (x + y))) (fun k => ?_) (Ev.now _))
      rw [signed_sg, ev, Option.bind_some]
theorem T_len {z : Int} (h : z.natAbs < lim400) : (T z).length ≤ 401 := by
  have := (dg_len400 z.natAbs).2 h
  unfold T
  split
  · rw [List.length_cons]; omega
  · omega
theorem T_size {z : Int} (h : z.natAbs < lim400) : (mkS (T z)).size ≤ 401 := by rw [size_mkS]; exact T_len h
theorem both_ev (s t : ByteArray) (hs : s.size ≤ 140737488351232) (ht : t.size ≤ 140737488351232) : Ev (fun k => integer_both.f k s t) (vB (lst s) && vB (lst t)) := by
  unfold integer_both.f
  refine Ev.bind (valid_ev s hs) ?_
  cases h : vB (lst s) with
  | true =>
    refine Ev.congr (fun k => if_pos rfl) ?_
    rw [Bool.true_and]
    exact Ev.bind (valid_ev t ht) (Ev.now _)
  | false =>
    refine Ev.congr (f := fun _ => some false) (fun k => if_neg (by decide)) ?_
    rw [Bool.false_and]
    exact Ev.now _
theorem both_T {x y : Int} (hx : x.natAbs < lim400) (hy : y.natAbs < lim400) : Ev (fun k => integer_both.f k (mkS (T x)) (mkS (T y))) true := by
  have := both_ev (mkS (T x)) (mkS (T y)) (by have := T_size hx; omega) (by have := T_size hy; omega)
  rw [lst_mkS, lst_mkS, vB_T hx, vB_T hy] at this
  exact this
theorem read_T {z : Int} (h : z.natAbs < lim400) : Ev (fun k => integer_read.f k (mkS (T z))) (num z) := read_ev _ z (lst_mkS _) h
theorem text_res (z : Int) (hl : lenle z.natAbs 900) : integer_number_text.f (num z).1 (num z).2 = some (res z) := text_num z (Nat.le_trans hl (by decide))
theorem p18 : p10 18 = 1000000000000000000 := rfl
theorem p20 : p10 20 = 100000000000000000000 := rfl
theorem sg_mul (x y : Int) : sg (decide (x < 0) != decide (y < 0)) (x.natAbs * y.natAbs) = x * y := by
  have h := Int.natAbs_mul x y
  rw [← h]
  unfold sg
  by_cases h0 : x = 0
  · subst h0; simp
  · by_cases h1 : y = 0
    · subst h1; simp
    · by_cases hx : x < 0
      · by_cases hy : y < 0
        · have := Int.mul_pos_of_neg_of_neg hx hy
          rw [decide_eq_true hx, decide_eq_true hy, if_neg (by decide)]; omega
        · have := Int.mul_neg_of_neg_of_pos hx (show 0 < y by omega)
          rw [decide_eq_true hx, decide_eq_false hy, if_pos (by decide)]; omega
      · by_cases hy : y < 0
        · have := Int.mul_neg_of_pos_of_neg (show 0 < x by omega) hy
          rw [decide_eq_false hx, decide_eq_true hy, if_pos (by decide)]; omega
        · have := Int.mul_pos (show 0 < x by omega) (show 0 < y by omega)
          rw [decide_eq_false hx, decide_eq_false hy, if_neg (by decide)]; omega
end Go.Proofs.YtdnjlmoggnbknaaDoor.PInt
