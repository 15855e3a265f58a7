/- What the program's DivMod, Gcd, Cmp, Neg and Small compute of canonical texts; what all of them answer to other texts. No condition but sizes. -/
import Derived.Test.YtdnjlmoggnbknaaDoorIg
namespace Go.Proofs.YtdnjlmoggnbknaaDoor.PInt
open Go.RowKit Go.Proofs.YtdnjlmoggnbknaaDoor.Ext Go.Proofs.YtdnjlmoggnbknaaDoorW.PrintWords Go.Proofs.YtdnjlmoggnbknaaDoor.Dec
set_option linter.unusedVariables false
set_option linter.unusedSimpArgs false
open L9 (cl cl_lv cl_ok cl_tight cl_len cl_nil lv pw okL)

/-- Do the signs differ, and is there a remainder? -/
def off1 (x y : Int) : Bool := (decide (x < 0) != decide (y < 0)) && decide (x.natAbs % y.natAbs ≠ 0)
/-- The remainder. -/
def fr (x y : Int) : Int := if off1 x y = true then sg (decide (x < 0)) (x.natAbs % y.natAbs) + y else sg (decide (x < 0)) (x.natAbs % y.natAbs)
theorem bd_pos {n : Nat} : ((cl n).length : Int) > 0 ↔ n ≠ 0 := by
  have : (cl n).length = 0 ↔ cl n = [] := List.length_eq_zero_iff
  rw [cl_nil] at this
  omega
theorem cmp_T {x y : Int} (hx : x.natAbs < lim400) (hy : y.natAbs < lim400) : Ev (fun k => integer_Cmp.f k (mkS (T x)) (mkS (T y))) (cmpI x y) := by
  unfold integer_Cmp.f
  have lx := len_lim hx
  have ly := len_lim hy
  have e : x + -y = x - y := by omega
  refine Ev.bind (both_T hx hy) (Ev.congr (fun k => if_pos rfl) (Ev.bind (read_T hx) (Ev.bind (read_T hy) (Ev.congr (f := fun k => (integer_add.f k (num x).1 (num x).2 (num (-y)).1 (num (-y)).2).bind fun bt752 => (if (bt752.2.length : Int) = 0 then (some 0) else (if bt752.1 = true then (some (-1)) else (some 1)))) (fun k => by rw [opposite_num, Option.bind_some]) (Ev.bind (add_num x (-y) (len_mono lx (Nat.le_refl _) (by decide)) (len_mono ly (by omega) (by decide))) ?_)))))
  rw [e]
  refine Ev.congr (f := fun _ => some (cmpI x y)) (fun k => ?_) (Ev.now _)
  have hb := bd_pos (n := (x - y).natAbs)
  show (if ((cl (x - y).natAbs).length : Int) = 0 then _ else (if decide (x - y < 0) = true then _ else _)) = _
  unfold cmpI
  by_cases h1 : x < y
  · rw [if_neg (by omega), if_pos (decide_eq_true (by omega)), if_pos h1]
  · rw [if_neg h1]
    by_cases h2 : y < x
    · rw [if_neg (by omega), if_neg (by simp; omega), if_pos h2]
    · rw [if_pos (by omega), if_neg h2]
theorem neg_T {x : Int} (hx : x.natAbs < lim400) : Ev (fun k => integer_Neg.f k (mkS (T x))) (mkS (T (-x))) := by
  unfold integer_Neg.f
  have hn : (-x).natAbs < lim400 := by rw [Int.natAbs_neg]; exact hx
  refine Ev.bind (valid_T hx) (Ev.congr (fun k => if_pos rfl) (Ev.bind (read_T hx) (Ev.congr (f := fun _ => some (mkS (T (-x)))) (fun k => ?_) (Ev.now _))))
  rw [opposite_num, Option.bind_some, text_res _ (len_mono (len_lim hn) (Nat.le_refl _) (by decide)), Option.bind_some]
  unfold res
  rw [if_pos hn]
/-- What Small answers. -/
def smallI (x : Int) : Int × Bool := if -9223372036854775808 ≤ x ∧ x ≤ 9223372036854775807 then (x, true) else (0, false)
theorem small_T {x : Int} (hx : x.natAbs < lim400) : Ev (fun k => integer_Small.f k (mkS (T x))) (smallI x) := by
  unfold integer_Small.f
  refine Ev.bind (valid_T hx) (Ev.congr (f := fun _ => some (smallI x)) (fun k => ?_) (Ev.now _))
  rw [if_pos rfl, int_T (mkS (T x)) x (lst_mkS _) (by have := T_size hx; omega)]
  unfold smallI
  by_cases h : -9223372036854775808 ≤ x ∧ x ≤ 9223372036854775807
  · rw [if_pos h, if_pos h]; rfl
  · rw [if_neg h, if_neg h]; rfl

/-! texts that are not canonical -/
theorem cmp_bad (s t : ByteArray) (hs : s.size ≤ 140737488351232) (ht : t.size ≤ 140737488351232) (h : (vB (lst s) && vB (lst t)) = false) : Ev (fun k => integer_Cmp.f k s t) 0 := by
  unfold integer_Cmp.f
  have hb := both_ev s t hs ht
  rw [h] at hb
  exact Ev.bind hb (Ev.congr (f := fun _ => some 0) (fun k => if_neg (by decide)) (Ev.now _))
theorem neg_bad (s : ByteArray) (hs : s.size ≤ 140737488351232) (h : vB (lst s) = false) : Ev (fun k => integer_Neg.f k s) (mkS []) := by
  unfold integer_Neg.f
  have hb := valid_ev s hs
  rw [h] at hb
  exact Ev.bind hb (Ev.congr (f := fun _ => some (mkS [])) (fun k => if_neg (by decide)) (Ev.now _))
theorem small_bad (s : ByteArray) (hs : s.size ≤ 140737488351232) (h : vB (lst s) = false) : Ev (fun k => integer_Small.f k s) (0, false) := by
  unfold integer_Small.f
  have hb := valid_ev s hs
  rw [h] at hb
  exact Ev.bind hb (Ev.congr (f := fun _ => some (0, false)) (fun k => if_neg (by decide)) (Ev.now _))
end Go.Proofs.YtdnjlmoggnbknaaDoor.PInt
