/- What the program's Add, Sub, Mul, DivMod, Gcd, Cmp, Neg, Small and Of compute of canonical texts: the texts of the numbers' sum, difference, product, floored quotient and remainder, greatest common divisor, order, opposite; of other texts: the error. No condition but sizes. -/
import Derived.Test.YtdnjlmoggnbknaaDoorIf
import Derived.Test.YtdnjlmoggnbknaaDoorIc
namespace Go.Proofs.YtdnjlmoggnbknaaDoor.PInt
open Go.RowKit Go.Proofs.YtdnjlmoggnbknaaDoor.Ext Go.Proofs.YtdnjlmoggnbknaaDoorW.PrintWords Go.Proofs.YtdnjlmoggnbknaaDoor.Dec
set_option linter.unusedVariables false
set_option linter.unusedSimpArgs false
open L9 (cl cl_lv cl_ok cl_tight cl_len cl_nil lv pw okL)

theorem p10_le {k j : Nat} (h : k ≤ 9 * j) : p10 k ≤ 1000000000 ^ j := by
  have e : (1000000000 : Nat) ^ j = 10 ^ (9 * j) := by rw [show (1000000000 : Nat) = 10 ^ 9 from rfl, ← Nat.pow_mul]
  rw [e]
  exact Nat.pow_le_pow_right (by decide) h
theorem p10_mono {k j : Nat} (h : k ≤ j) : p10 k ≤ p10 j := Nat.pow_le_pow_right (by decide) h
theorem len_lim {n : Nat} (h : n < lim400) : lenle n 45 := lenle_iff.2 (Nat.lt_of_lt_of_le h (p10_le (by decide)))
theorem p10_lim {n k : Nat} (h : n < p10 k) (hk : k ≤ 400) : n < lim400 := Nat.lt_of_lt_of_le h (p10_mono hk)

/-- A number as the program has it. -/
def num (z : Int) : Bool × List Int := (decide (z < 0), cl z.natAbs)
def sg (neg : Bool) (n : Nat) : Int := if neg = true then -(n : Int) else n
theorem sg_abs (neg : Bool) (n : Nat) : (sg neg n).natAbs = n := by
  unfold sg
  split <;> omega
theorem signed_sg (neg : Bool) (n : Nat) : integer_signed.f neg (cl n) = some (num (sg neg n)) := by
  unfold integer_signed.f num
  rw [sg_abs]
  have hl : ((cl n).length : Int) > 0 ↔ n ≠ 0 := by
    have : (cl n).length = 0 ↔ cl n = [] := List.length_eq_zero_iff
    rw [cl_nil] at this
    omega
  cases neg with
  | true =>
    rw [if_pos rfl]
    congr 2
    rw [decide_eq_decide, hl]
    unfold sg
    rw [if_pos rfl]
    omega
  | false =>
    rw [if_neg (by decide)]
    congr 2
theorem opposite_num (z : Int) : integer_opposite.f (num z).1 (num z).2 = some (num (-z)) := by
  unfold integer_opposite.f
  show (integer_signed.f (!decide (z < 0)) (cl z.natAbs)).bind _ = _
  rw [signed_sg, Option.bind_some]
  have e : sg (!decide (z < 0)) z.natAbs = -z := by
    unfold sg
    by_cases h : z < 0
    · rw [decide_eq_true h]; simp; omega
    · rw [decide_eq_false h]; simp; omega
  rw [e]
theorem add_num (x y : Int) (hx : lenle x.natAbs 900) (hy : lenle y.natAbs 900) : Ev (fun k => integer_add.f k (num x).1 (num x).2 (num y).1 (num y).2) (num (x + y)) := by
  unfold integer_add.f
  have hx' := len_mono (j := 1000) hx (Nat.le_refl _) (by decide)
  have hy' := len_mono (j := 1000) hy (Nat.le_refl _) (by decide)
  have hsx : (num x).1 = decide (x < 0) := rfl
  have hsy : (num y).1 = decide (y < 0) := rfl
  have h2x : (num x).2 = cl x.natAbs := rfl
  have h2y : (num y).2 = cl y.natAbs := rfl
  by_cases hs : (decide (x < 0) == decide (y < 0)) = true
  · refine Ev.congr (fun k => by rw [hsx, hsy, if_pos hs, h2x, h2y]) ?_
    have e : decide (x < 0) = decide (y < 0) := by simpa using hs
    have ev : sg (decide (x < 0)) (x.natAbs + y.natAbs) = x + y := by
      have h1 := decide_eq_decide.1 e
      unfold sg
      by_cases h : x < 0
      · rw [if_pos (decide_eq_true h)]; have := h1.1 h; omega
      · rw [if_neg (by simpa using h)]; have : ¬ y < 0 := fun hy => h (h1.2 hy); omega
    refine Ev.bind (plus_cl _ _ hx' hy') (Ev.congr (f := fun _ => some (num (x + y))) (fun k => ?_) (Ev.now _))
    rw [signed_sg, ev, Option.bind_some]
  · refine Ev.congr (fun k => by rw [hsx, hsy, if_neg hs, h2x, h2y]) ?_
    have e : decide (x < 0) ≠ decide (y < 0) := by simpa using hs
    have h1 : ¬ (x < 0 ↔ y < 0) := fun h => e (decide_eq_decide.2 h)
    refine Ev.bind (compare_cl _ _ hx') ?_
    by_cases hc : y.natAbs ≤ x.natAbs
    · have ev : sg (decide (x < 0)) (x.natAbs - y.natAbs) = x + y := by
        unfold sg
        by_cases h : x < 0
        · rw [if_pos (decide_eq_true h)]; have : ¬ y < 0 := fun hy => h1 ⟨fun _ => hy, fun _ => h⟩; omega
        · rw [if_neg (by simpa using h)]; have : y < 0 := by rcases Int.lt_or_le y 0 with hy | hy; exact hy; exact absurd ⟨fun h' => absurd h' h, fun h' => by omega⟩ h1
          omega
      have hge : cmpI (x.natAbs : Int) (y.natAbs : Int) ≥ 0 := by
        rcases Int.lt_or_le (cmpI (x.natAbs : Int) (y.natAbs : Int)) 0 with h | h
        · have := cmp_neg.1 h; omega
        · exact h
      refine Ev.congr (fun k => if_pos hge) ?_
      refine Ev.bind (minus_cl _ _ hc hx') (Ev.congr (f := fun _ => some (num (x + y))) (fun k => ?_) (Ev.now _))
      rw [signed_sg, ev, Option.bind_some]
    · have ev : sg (decide (y < 0)) (y.natAbs - x.natAbs) = x + y := by
        unfold sg
        by_cases h : y < 0
        · rw [if_pos (decide_eq_true h)]; have : ¬ x < 0 := fun hx => h1 ⟨fun _ => h, fun _ => hx⟩; omega
        · rw [if_neg (by simpa using h)]; have : x < 0 := by rcases Int.lt_or_le x 0 with hx | hx; exact hx; exact absurd ⟨fun h' => by omega, fun h' => absurd h' h⟩ h1
          omega
      have hlt : ¬ cmpI (x.natAbs : Int) (y.natAbs : Int) ≥ 0 := by
        have := cmp_neg.2 (show (x.natAbs : Int) < (y.natAbs : Int) by omega); omega
      refine Ev.congr (fun k => if_neg hlt) ?_
      refine Ev.bind (minus_cl _ _ (by omega) hy') (Ev.congr (f := fun _ => some (num (x + y))) (fun k => ?_) (Ev.now _))
      rw [signed_sg, ev, Option.bind_some]
theorem T_len {z : Int} (h : z.natAbs < lim400) : (T z).length ≤ 401 := by
  have := (dg_len400 z.natAbs).2 h
  unfold T
  split
  · rw [List.length_cons]; omega
  · omega
theorem T_size {z : Int} (h : z.natAbs < lim400) : (mkS (T z)).size ≤ 401 := by rw [size_mkS]; exact T_len h
theorem T_short {z : Int} {k : Nat} (h : (T z).length ≤ k + 1) : z.natAbs < p10 (k + 1) := by
  rw [← p10_len]
  unfold T at h
  split at h
  · rw [List.length_cons] at h; omega
  · exact h
theorem both_ev (s t : ByteArray) (hs : s.size ≤ 140737488351232) (ht : t.size ≤ 140737488351232) : Ev (fun k => integer_both.f k s t) (vB (lst s) && vB (lst t)) := by
  unfold integer_both.f
  refine Ev.bind (valid_ev s hs) ?_
  cases h : vB (lst s) with
  | true =>
    refine Ev.congr (fun k => if_pos rfl) ?_
    rw [Bool.true_and]
    exact Ev.bind (valid_ev t ht) (Ev.now _)
  | false =>
    refine Ev.congr (f := fun _ => some false) (fun k => if_neg (by decide)) ?_
    rw [Bool.false_and]
    exact Ev.now _
theorem both_T {x y : Int} (hx : x.natAbs < lim400) (hy : y.natAbs < lim400) : Ev (fun k => integer_both.f k (mkS (T x)) (mkS (T y))) true := by
  have := both_ev (mkS (T x)) (mkS (T y)) (by have := T_size hx; omega) (by have := T_size hy; omega)
  rw [lst_mkS, lst_mkS, vB_T hx, vB_T hy] at this
  exact this
theorem near_T (x y : Int) (k : Nat) : integer_near.f (mkS (T x)) (mkS (T y)) (k : Int) = some (decide ((T x).length ≤ k ∧ (T y).length ≤ k)) := by
  unfold integer_near.f
  rw [size_mkS, size_mkS]
  by_cases h : (T x).length ≤ k
  · rw [if_pos (by omega)]
    congr 1
    rw [decide_eq_decide]
    omega
  · rw [if_neg (by omega), decide_eq_false (fun h' => h h'.1)]
theorem machine_T {x : Int} (h : -9223372036854775808 ≤ x ∧ x ≤ 9223372036854775807) (hs : (mkS (T x)).size ≤ 140737488351232) : integer_machine.f (mkS (T x)) = some x := by
  unfold integer_machine.f
  rw [int_T (mkS (T x)) x (lst_mkS _) hs, if_pos h]
  rfl
theorem of_T {z : Int} (h : -9223372036854775808 ≤ z ∧ z ≤ 9223372036854775807) : integer_Of.f z = some (mkS (T z)) := by
  unfold integer_Of.f strconv_FormatInt.f
  rw [if_pos ⟨rfl, h.1, h.2⟩, T_itoa]
  rfl
theorem read_T {z : Int} (h : z.natAbs < lim400) : Ev (fun k => integer_read.f k (mkS (T z))) (num z) := read_ev _ z (lst_mkS _) h
theorem text_res (z : Int) (hl : lenle z.natAbs 900) : integer_number_text.f (num z).1 (num z).2 = some (res z) := text_num z (Nat.le_trans hl (by decide))
theorem p18 : p10 18 = 1000000000000000000 := rfl
theorem res_small {z : Int} (h : z.natAbs < p10 20) : res z = (mkS (T z), 0) := by
  unfold res
  rw [if_pos (p10_lim h (by decide))]
theorem p20 : p10 20 = 100000000000000000000 := rfl
theorem add_T {x y : Int} (hx : x.natAbs < lim400) (hy : y.natAbs < lim400) : Ev (fun k => integer_Add.f k (mkS (T x)) (mkS (T y))) (res (x + y)) := by
  unfold integer_Add.f
  refine Ev.bind (both_T hx hy) (Ev.congr (fun k => if_pos rfl) ?_)
  rw [show (18 : Int) = ((18 : Nat) : Int) from rfl]
  by_cases h : (T x).length ≤ 18 ∧ (T y).length ≤ 18
  · have h1 := T_short (k := 17) h.1
    have h2 := T_short (k := 17) h.2
    rw [p18] at h1 h2
    refine Ev.congr (f := fun _ => some (res (x + y))) (fun k => ?_) (Ev.now _)
    rw [near_T, Option.bind_some, if_pos (decide_eq_true h), machine_T (by omega) (by have := T_size hx; omega), Option.bind_some, machine_T (by omega) (by have := T_size hy; omega), Option.bind_some, wrap_ok (by omega) (by omega), of_T (by omega), Option.bind_some, res_small (by rw [p20]; omega)]
  · refine Ev.congr (fun k => by rw [near_T, Option.bind_some, if_neg (by simpa using h)]) ?_
    have lx := len_lim hx
    have ly := len_lim hy
    have la : lenle (x + y).natAbs 46 := len_mono (len_add lx ly) (by omega) (Nat.le_refl _)
    refine Ev.bind (read_T hx) (Ev.bind (read_T hy) (Ev.bind (add_num x y (len_mono lx (Nat.le_refl _) (by decide)) (len_mono ly (Nat.le_refl _) (by decide))) (Ev.congr (f := fun _ => some (res (x + y))) (fun k => ?_) (Ev.now _))))
    rw [text_res _ (len_mono la (Nat.le_refl _) (by decide)), Option.bind_some]
theorem sub_T {x y : Int} (hx : x.natAbs < lim400) (hy : y.natAbs < lim400) : Ev (fun k => integer_Sub.f k (mkS (T x)) (mkS (T y))) (res (x - y)) := by
  unfold integer_Sub.f
  refine Ev.bind (both_T hx hy) (Ev.congr (fun k => if_pos rfl) ?_)
  rw [show (18 : Int) = ((18 : Nat) : Int) from rfl]
  by_cases h : (T x).length ≤ 18 ∧ (T y).length ≤ 18
  · have h1 := T_short (k := 17) h.1
    have h2 := T_short (k := 17) h.2
    rw [p18] at h1 h2
    refine Ev.congr (f := fun _ => some (res (x - y))) (fun k => ?_) (Ev.now _)
    rw [near_T, Option.bind_some, if_pos (decide_eq_true h), machine_T (by omega) (by have := T_size hx; omega), Option.bind_some, machine_T (by omega) (by have := T_size hy; omega), Option.bind_some, wrap_ok (by omega) (by omega), of_T (by omega), Option.bind_some, res_small (by rw [p20]; omega)]
  · refine Ev.congr (fun k => by rw [near_T, Option.bind_some, if_neg (by simpa using h)]) ?_
    have lx := len_lim hx
    have ly := len_lim hy
    have la : lenle (x - y).natAbs 46 := len_mono (len_add lx ly) (by omega) (Nat.le_refl _)
    have e : x + -y = x - y := by omega
    refine Ev.bind (read_T hx) (Ev.bind (read_T hy) (Ev.congr (f := fun k => (integer_add.f k (num x).1 (num x).2 (num (-y)).1 (num (-y)).2).bind fun bt411 => (integer_number_text.f bt411.1 bt411.2).bind fun bt415 => some (bt415.1, bt415.2)) (fun k => by rw [opposite_num, Option.bind_some]) (Ev.bind (add_num x (-y) (len_mono lx (Nat.le_refl _) (by decide)) (len_mono ly (by omega) (by decide))) (Ev.congr (f := fun _ => some (res (x - y))) (fun k => ?_) (Ev.now _)))))
    rw [e, text_res _ (len_mono la (Nat.le_refl _) (by decide)), Option.bind_some]
end Go.Proofs.YtdnjlmoggnbknaaDoor.PInt
