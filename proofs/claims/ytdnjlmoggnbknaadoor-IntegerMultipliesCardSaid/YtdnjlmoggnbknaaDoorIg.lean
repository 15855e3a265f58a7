/- What the program's Add, Sub, Mul, DivMod, Gcd, Cmp, Neg, Small and Of compute of canonical texts: the texts of the numbers' sum, difference, product, floored quotient and remainder, greatest common divisor, order, opposite; of other texts: the error. No condition but sizes. -/
import Derived.Test.YtdnjlmoggnbknaaDoorIf
import Derived.Test.YtdnjlmoggnbknaaDoorIc
namespace Go.Proofs.YtdnjlmoggnbknaaDoor.PInt
open Go.RowKit Go.Proofs.YtdnjlmoggnbknaaDoor.Ext Go.Proofs.YtdnjlmoggnbknaaDoorW.PrintWords Go.Proofs.YtdnjlmoggnbknaaDoor.Dec
set_option linter.unusedVariables false
set_option linter.unusedSimpArgs false
open L9 (cl cl_lv cl_ok cl_tight cl_len cl_nil lv pw okL)

theorem p10_le {k j : Nat} (h : k ≤ 9 * j) : p10 k ≤ 1000000000 ^ j := by
  have e : (1000000000 : Nat) ^ j = 10 ^ (9 * j) := by rw [show (1000000000 : Nat) = 10 ^ 9 from rfl, ← Nat.pow_mul]
  rw [e]
  exact Nat.pow_le_pow_right (by decide) h
theorem p10_mono {k j : Nat} (h : k ≤ j) : p10 k ≤ p10 j := Nat.pow_le_pow_right (by decide) h
theorem len_lim {n : Nat} (h : n < lim400) : lenle n 45 := lenle_iff.2 (Nat.lt_of_lt_of_le h (p10_le (by decide)))
theorem p10_lim {n k : Nat} (h : n < p10 k) (hk : k ≤ 400) : n < lim400 := Nat.lt_of_lt_of_le h (p10_mono hk)

/-- A number as the program has it. -/
def num (z : Int) : Bool × List Int := (decide (z < 0), cl z.natAbs)
def sg (neg : Bool) (n : Nat) : Int := if neg = true then -(n : Int) else n
theorem sg_abs (neg : Bool) (n : Nat) : (sg neg n).natAbs = n := by
  unfold sg
  split <;> omega
theorem signed_sg (neg : Bool) (n : Nat) : integer_signed.f neg (cl n) = some (num (sg neg n)) := by
  unfold integer_signed.f num
  rw [sg_abs]
  have hl : ((cl n).length : Int) > 0 ↔ n ≠ 0 := by
    have : (cl n).length = 0 ↔ cl n = [] := List.length_eq_zero_iff
    rw [cl_nil] at this
    omega
  cases neg with
  | true =>
    rw [if_pos rfl]
    congr 2
    rw [decide_eq_decide, hl]
    unfold sg
    rw [if_pos rfl]
    omega
  | false =>
    rw [if_neg (by decide)]
    congr 2
theorem T_len {z : Int} (h : z.natAbs < lim400) : (T z).length ≤ 401 := by
  have := (dg_len400 z.natAbs).2 h
  unfold T
  split
  · rw [List.length_cons]; omega
  · omega
theorem T_size {z : Int} (h : z.natAbs < lim400) : (mkS (T z)).size ≤ 401 := by rw [size_mkS]; exact T_len h
theorem T_short {z : Int} {k : Nat} (h : (T z).length ≤ k + 1) : z.natAbs < p10 (k + 1) := by
  rw [← p10_len]
  unfold T at h
  split at h
  · rw [List.length_cons] at h; omega
  · exact h
theorem both_ev (s t : ByteArray) (hs : s.size ≤ 140737488351232) (ht : t.size ≤ 140737488351232) : Ev (fun k => integer_both.f k s t) (vB (lst s) && vB (lst t)) := by
  unfold integer_both.f
  refine Ev.bind (valid_ev s hs) ?_
  cases h : vB (lst s) with
  | true =>
    refine Ev.congr (fun k => if_pos rfl) ?_
    rw [Bool.true_and]
    exact Ev.bind (valid_ev t ht) (Ev.now _)
  | false =>
    refine Ev.congr (f := fun _ => some false) (fun k => if_neg (by decide)) ?_
    rw [Bool.false_and]
    exact Ev.now _
theorem both_T {x y : Int} (hx : x.natAbs < lim400) (hy : y.natAbs < lim400) : Ev (fun k => integer_both.f k (mkS (T x)) (mkS (T y))) true := by
  have := both_ev (mkS (T x)) (mkS (T y)) (by have := T_size hx; omega) (by have := T_size hy; omega)
  rw [lst_mkS, lst_mkS, vB_T hx, vB_T hy] at this
  exact this
theorem near_T (x y : Int) (k : Nat) : integer_near.f (mkS (T x)) (mkS (T y)) (k : Int) = some (decide ((T x).length ≤ k ∧ (T y).length ≤ k)) := by
  unfold integer_near.f
  rw [size_mkS, size_mkS]
  by_cases h : (T x).length ≤ k
  · rw [if_pos (by omega)]
    congr 1
    rw [decide_eq_decide]
    omega
  · rw [if_neg (by omega), decide_eq_false (fun h' => h h'.1)]
theorem machine_T {x : Int} (h : -9223372036854775808 ≤ x ∧ x ≤ 9223372036854775807) (hs : (mkS (T x)).size ≤ 140737488351232) : integer_machine.f (mkS (T x)) = some x := by
  unfold integer_machine.f
  rw [int_T (mkS (T x)) x (lst_mkS _) hs, if_pos h]
  rfl
theorem of_T {z : Int} (h : -9223372036854775808 ≤ z ∧ z ≤ 9223372036854775807) : integer_Of.f z = some (mkS (T z)) := by
  unfold integer_Of.f strconv_FormatInt.f
  rw [if_pos ⟨rfl, h.1, h.2⟩, T_itoa]
  rfl
theorem read_T {z : Int} (h : z.natAbs < lim400) : Ev (fun k => integer_read.f k (mkS (T z))) (num z) := read_ev _ z (lst_mkS _) h
theorem text_res (z : Int) (hl : lenle z.natAbs 900) : integer_number_text.f (num z).1 (num z).2 = some (res z) := text_num z (Nat.le_trans hl (by decide))
theorem p18 : p10 18 = 1000000000000000000 := rfl
theorem p9 : p10 9 = 1000000000 := rfl
theorem res_small {z : Int} (h : z.natAbs < p10 20) : res z = (mkS (T z), 0) := by
  unfold res
  rw [if_pos (p10_lim h (by decide))]
theorem p20 : p10 20 = 100000000000000000000 := rfl
theorem sg_mul (x y : Int) : sg (decide (x < 0) != decide (y < 0)) (x.natAbs * y.natAbs) = x * y := by
  have h := Int.natAbs_mul x y
  rw [← h]
  unfold sg
  by_cases h0 : x = 0
  · subst h0; simp
  · by_cases h1 : y = 0
    · subst h1; simp
    · by_cases hx : x < 0
      · by_cases hy : y < 0
        · have := Int.mul_pos_of_neg_of_neg hx hy
          rw [decide_eq_true hx, decide_eq_true hy, if_neg (by decide)]; omega
        · have := Int.mul_neg_of_neg_of_pos hx (show 0 < y by omega)
          rw [decide_eq_true hx, decide_eq_false hy, if_pos (by decide)]; omega
      · by_cases hy : y < 0
        · have := Int.mul_neg_of_pos_of_neg (show 0 < x by omega) hy
          rw [decide_eq_false hx, decide_eq_true hy, if_pos (by decide)]; omega
        · have := Int.mul_pos (show 0 < x by omega) (show 0 < y by omega)
          rw [decide_eq_false hx, decide_eq_false hy, if_neg (by decide)]; omega
theorem mul_T {x y : Int} (hx : x.natAbs < lim400) (hy : y.natAbs < lim400) : Ev (fun k => integer_Mul.f k (mkS (T x)) (mkS (T y))) (res (x * y)) := by
  unfold integer_Mul.f
  refine Ev.bind (both_T hx hy) (Ev.congr (fun k => if_pos rfl) ?_)
  rw [show (9 : Int) = ((9 : Nat) : Int) from rfl]
  by_cases h : (T x).length ≤ 9 ∧ (T y).length ≤ 9
  · have h1 := T_short (k := 8) h.1
    have h2 := T_short (k := 8) h.2
    rw [p9] at h1 h2
    have hm : (x * y).natAbs ≤ 999999999 * 999999999 := by rw [Int.natAbs_mul]; exact Nat.mul_le_mul (by omega) (by omega)
    refine Ev.congr (f := fun _ => some (res (x * y))) (fun k => ?_) (Ev.now _)
    rw [near_T, Option.bind_some, if_pos (decide_eq_true h), machine_T (by omega) (by have := T_size hx; omega), Option.bind_some, machine_T (by omega) (by have := T_size hy; omega), Option.bind_some, wrap_ok (by omega) (by omega), of_T (by omega), Option.bind_some, res_small (by rw [p20]; omega)]
  · refine Ev.congr (fun k => by rw [near_T, Option.bind_some, if_neg (by simpa using h)]) ?_
    have lx := len_lim hx
    have ly := len_lim hy
    have la : lenle (x * y).natAbs 90 := by rw [Int.natAbs_mul]; exact len_mul lx ly
    refine Ev.bind (read_T hx) (Ev.bind (read_T hy) (Ev.bind (times_cl x.natAbs y.natAbs (len_mono lx (Nat.le_refl _) (by decide)) (len_mono ly (Nat.le_refl _) (by decide))) (Ev.congr (f := fun _ => some (res (x * y))) (fun k => ?_) (Ev.now _))))
    show (integer_signed.f (decide (x < 0) != decide (y < 0)) (cl (x.natAbs * y.natAbs))).bind _ = _
    rw [signed_sg, sg_mul, Option.bind_some, text_res _ (len_mono la (Nat.le_refl _) (by decide)), Option.bind_some]
end Go.Proofs.YtdnjlmoggnbknaaDoor.PInt
