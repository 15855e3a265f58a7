/- What the program's DivMod, Gcd, Cmp, Neg and Small compute of canonical texts; what all of them answer to other texts. No condition but sizes. -/
import Derived.Test.YtdnjlmoggnbknaaDoorIg
namespace Go.Proofs.YtdnjlmoggnbknaaDoor.PInt
open Go.RowKit Go.Proofs.YtdnjlmoggnbknaaDoor.Ext Go.Proofs.YtdnjlmoggnbknaaDoorW.PrintWords Go.Proofs.YtdnjlmoggnbknaaDoor.Dec
set_option linter.unusedVariables false
set_option linter.unusedSimpArgs false
open L9 (cl cl_lv cl_ok cl_tight cl_len cl_nil lv pw okL)

/-- Do the signs differ, and is there a remainder? -/
def off1 (x y : Int) : Bool := (decide (x < 0) != decide (y < 0)) && decide (x.natAbs % y.natAbs ≠ 0)
/-- The quotient, rounded down. -/
def fq (x y : Int) : Int := if off1 x y = true then sg (decide (x < 0) != decide (y < 0)) (x.natAbs / y.natAbs) + -1 else sg (decide (x < 0) != decide (y < 0)) (x.natAbs / y.natAbs)
/-- The remainder. -/
def fr (x y : Int) : Int := if off1 x y = true then sg (decide (x < 0)) (x.natAbs % y.natAbs) + y else sg (decide (x < 0)) (x.natAbs % y.natAbs)
theorem base_div (x y : Int) : sg (decide (x < 0) != decide (y < 0)) (x.natAbs / y.natAbs) * y + sg (decide (x < 0)) (x.natAbs % y.natAbs) = x := by
  have hdm : ((y.natAbs * (x.natAbs / y.natAbs) + x.natAbs % y.natAbs : Nat) : Int) = (x.natAbs : Int) := congrArg _ (Nat.div_add_mod x.natAbs y.natAbs)
  rw [Int.natCast_add, Int.natCast_mul] at hdm
  generalize x.natAbs / y.natAbs = q at hdm ⊢
  generalize x.natAbs % y.natAbs = r at hdm ⊢
  have e : ∀ z : Int, (q : Int) * z = z * (q : Int) := fun z => Int.mul_comm _ _
  unfold sg
  by_cases hx : x < 0
  · by_cases hy : y < 0
    · have hb : (y.natAbs : Int) = -y := by omega
      rw [hb, Int.neg_mul] at hdm
      rw [decide_eq_true hx, decide_eq_true hy, if_neg (by decide), if_pos rfl, e]
      omega
    · have hb : (y.natAbs : Int) = y := by omega
      rw [hb] at hdm
      rw [decide_eq_true hx, decide_eq_false hy, if_pos (by decide), if_pos rfl, Int.neg_mul, e]
      omega
  · by_cases hy : y < 0
    · have hb : (y.natAbs : Int) = -y := by omega
      rw [hb, Int.neg_mul] at hdm
      rw [decide_eq_false hx, decide_eq_true hy, if_pos (by decide), if_neg (by decide), Int.neg_mul, e]
      omega
    · have hb : (y.natAbs : Int) = y := by omega
      rw [hb] at hdm
      rw [decide_eq_false hx, decide_eq_false hy, if_neg (by decide), if_neg (by decide), e]
      omega
theorem fq_fr (x y : Int) : fq x y * y + fr x y = x := by
  have h := base_div x y
  unfold fq fr
  by_cases ho : off1 x y = true
  · rw [if_pos ho, if_pos ho, Int.add_mul]
    omega
  · rw [if_neg ho, if_neg ho]
    exact h
theorem fr_lt {x y : Int} (hy : y ≠ 0) : (fr x y).natAbs < y.natAbs ∧ (fr x y = 0 ∨ (fr x y < 0 ↔ y < 0)) := by
  have hr := Nat.mod_lt x.natAbs (show 0 < y.natAbs by omega)
  unfold fr off1
  generalize x.natAbs % y.natAbs = r at hr ⊢
  unfold sg
  by_cases hx : x < 0
  · by_cases hy : y < 0
    · rw [decide_eq_true hx, decide_eq_true hy, if_neg (by simp), if_pos rfl]
      omega
    · rw [decide_eq_true hx, decide_eq_false hy]
      by_cases h0 : r = 0
      · subst h0; simp; omega
      · rw [if_pos (by simp [h0]), if_pos rfl]
        omega
  · by_cases hy : y < 0
    · rw [decide_eq_false hx, decide_eq_true hy]
      by_cases h0 : r = 0
      · subst h0; simp; omega
      · rw [if_pos (by simp [h0]), if_neg (by decide)]
        omega
    · rw [decide_eq_false hx, decide_eq_false hy, if_neg (by simp), if_neg (by decide)]
      omega
theorem fq_le (x y : Int) : (fq x y).natAbs ≤ x.natAbs := by
  have hq := Nat.div_le_self x.natAbs y.natAbs
  unfold fq
  by_cases ho : off1 x y = true
  · rw [if_pos ho]
    unfold off1 at ho
    rw [Bool.and_eq_true] at ho
    have h0 : x.natAbs % y.natAbs ≠ 0 := by simpa using ho.2
    have h1 : 1 ≤ x.natAbs := by
      rcases Nat.eq_zero_or_pos x.natAbs with h | h
      · rw [h, Nat.zero_mod] at h0; exact absurd rfl h0
      · exact h
    have h2 : x.natAbs / y.natAbs + 1 ≤ x.natAbs := by
      by_cases hb : y.natAbs = 0
      · rw [hb, Nat.div_zero]; omega
      · by_cases hb1 : y.natAbs = 1
        · rw [hb1, Nat.mod_one] at h0; exact absurd rfl h0
        · have h3 := Nat.div_lt_self h1 (show 1 < y.natAbs by omega)
          omega
    clear h0 ho
    generalize x.natAbs / y.natAbs = q at h2 ⊢
    unfold sg
    split <;> omega
  · rw [if_neg ho, sg_abs]
    exact hq
theorem bd_pos {n : Nat} : ((cl n).length : Int) > 0 ↔ n ≠ 0 := by
  have : (cl n).length = 0 ↔ cl n = [] := List.length_eq_zero_iff
  rw [cl_nil] at this
  omega
theorem divmod_T {x y : Int} (hx : x.natAbs < lim400) (hy : y.natAbs < lim400) (hy0 : y ≠ 0) : Ev (fun k => integer_DivMod.f k (mkS (T x)) (mkS (T y))) (mkS (T (fq x y)), mkS (T (fr x y)), 0) := by
  have lx := len_lim hx
  have ly := len_lim hy
  have hq : (fq x y).natAbs < lim400 := Nat.lt_of_le_of_lt (fq_le x y) hx
  have hr : (fr x y).natAbs < lim400 := Nat.lt_trans (fr_lt hy0).1 hy
  have r1 : res (fq x y) = (mkS (T (fq x y)), 0) := by unfold res; rw [if_pos hq]
  have r2 : res (fr x y) = (mkS (T (fr x y)), 0) := by unfold res; rw [if_pos hr]
  have t1 := text_res (fq x y) (len_mono (len_lim hq) (Nat.le_refl _) (by decide))
  have t2 := text_res (fr x y) (len_mono (len_lim hr) (Nat.le_refl _) (by decide))
  rw [r1] at t1
  rw [r2] at t2
  unfold integer_DivMod.f
  refine Ev.bind (both_T hx hy) (Ev.congr (fun k => if_pos rfl) ?_)
  have hne : ¬ (mkS (T y)).toList = [48] := by rw [toList_lst, lst_mkS, T_eq_zero]; exact hy0
  refine Ev.congr (fun k => if_neg hne) (Ev.bind (read_T hx) (Ev.bind (read_T hy) (Ev.bind (divide_cl x.natAbs y.natAbs (by omega) (len_mono lx (Nat.le_refl _) (by decide)) (len_mono ly (Nat.le_refl _) (by decide))) ?_)))
  obtain ⟨Q, hQ⟩ : ∃ Q, Q = sg (decide (x < 0) != decide (y < 0)) (x.natAbs / y.natAbs) := ⟨_, rfl⟩
  obtain ⟨R, hR⟩ : ∃ R, R = sg (decide (x < 0)) (x.natAbs % y.natAbs) := ⟨_, rfl⟩
  have lQ : lenle Q.natAbs 45 := by rw [hQ, sg_abs]; exact len_mono lx (Nat.div_le_self _ _) (Nat.le_refl _)
  have lR : lenle R.natAbs 45 := by rw [hR, sg_abs]; exact len_mono lx (Nat.mod_le _ _) (Nat.le_refl _)
  refine Ev.congr (f := fun k => (if ((cl (x.natAbs % y.natAbs)).length : Int) > 0 then (integer_DivMod.j0 k (decide (x < 0) != decide (y < 0)) (num y).1 (num y).2 (num Q).1 (num Q).2 (num R).1 (num R).2) else (integer_DivMod.j0 k false (num y).1 (num y).2 (num Q).1 (num Q).2 (num R).1 (num R).2))) (fun k => ?_) ?_
  · show (integer_signed.f (decide (x < 0) != decide (y < 0)) (cl (x.natAbs / y.natAbs))).bind _ = _
    rw [signed_sg, Option.bind_some, ← hQ]
    show (integer_signed.f (decide (x < 0)) (cl (x.natAbs % y.natAbs))).bind _ = _
    rw [signed_sg, Option.bind_some, ← hR]
    rfl
  · have step : ∀ b : Bool, b = off1 x y → Ev (fun k => integer_DivMod.j0 k b (num y).1 (num y).2 (num Q).1 (num Q).2 (num R).1 (num R).2) (mkS (T (fq x y)), mkS (T (fr x y)), 0) := by
      intro b hb
      cases b with
      | true =>
        have e1 : fq x y = Q + -1 := by unfold fq; rw [if_pos hb.symm, hQ]
        have e2 : fr x y = R + y := by unfold fr; rw [if_pos hb.symm, hR]
        have one : num (-1) = (true, [1]) := by
          unfold num
          have : (-1 : Int).natAbs = 1 := rfl
          rw [this, L9.cl_pos (by decide)]
          have h0 : 1 / 1000000000 = 0 := by decide
          rw [h0, L9.cl_zero]
          rfl
        have a1 := add_num Q (-1) (len_mono lQ (Nat.le_refl _) (by decide)) (len_mono (lenle_iff.2 (show 1 < 1000000000 ^ 1 by decide)) (Nat.le_refl _) (by decide))
        have a2 := add_num R y (len_mono lR (Nat.le_refl _) (by decide)) (len_mono ly (Nat.le_refl _) (by decide))
        rw [one] at a1
        rw [← e1] at a1
        rw [← e2] at a2
        refine Ev.step (f := fun k => (integer_add.f k (num Q).1 (num Q).2 true [1]).bind fun bt299 => (integer_add.f k (num R).1 (num R).2 (num y).1 (num y).2).bind fun bt303 => (integer_number_text.f bt299.1 bt299.2).bind fun bt307 => (integer_number_text.f bt303.1 bt303.2).bind fun bt309 => some (bt307.1, bt309.1, 0)) (fun k => by simp only [integer_DivMod.j0]; rw [if_pos trivial]) ?_
        refine Ev.bind a1 (Ev.bind a2 (Ev.congr (f := fun _ => some (mkS (T (fq x y)), mkS (T (fr x y)), 0)) (fun k => ?_) (Ev.now _)))
        rw [t1, Option.bind_some, t2, Option.bind_some]
      | false =>
        have e1 : fq x y = Q := by unfold fq; rw [if_neg (by rw [← hb]; decide), hQ]
        have e2 : fr x y = R := by unfold fr; rw [if_neg (by rw [← hb]; decide), hR]
        rw [e1] at t1 ⊢
        rw [e2] at t2 ⊢
        refine Ev.step (f := fun _ => some (mkS (T Q), mkS (T R), 0)) (fun k => ?_) (Ev.now _)
        simp only [integer_DivMod.j0]
        rw [if_neg (by decide), t1, Option.bind_some, t2, Option.bind_some]
    by_cases h0 : x.natAbs % y.natAbs = 0
    · refine Ev.congr (fun k => if_neg (fun h => bd_pos.1 h h0)) (step false ?_)
      unfold off1
      rw [show decide (x.natAbs % y.natAbs ≠ 0) = false from decide_eq_false (fun h => h h0), Bool.and_false]
    · refine Ev.congr (fun k => if_pos (bd_pos.2 h0)) (step _ ?_)
      unfold off1
      rw [show decide (x.natAbs % y.natAbs ≠ 0) = true from decide_eq_true h0, Bool.and_true]
theorem gcd_loop : ∀ (b a : Nat), lenle a 45 → lenle b 45 → Ev (fun k => integer_Gcd.l0 k (cl a) (cl b)) (res (Nat.gcd a b : Nat)) := by
  intro b
  induction b using Nat.strongRecOn with
  | _ b ih =>
    intro a ha hb
    by_cases h0 : b = 0
    · subst h0
      rw [Nat.gcd_zero_right]
      have t := text_res (a : Int) (len_mono ha (by omega) (by decide))
      have e : num (a : Int) = (false, cl a) := by
        unfold num
        rw [decide_eq_false (by omega), show (a : Int).natAbs = a from rfl]
      rw [e] at t
      refine Ev.step (f := fun _ => some (res (a : Int))) (fun k => ?_) (Ev.now _)
      simp only [integer_Gcd.l0]
      rw [if_neg (fun h => bd_pos.1 h rfl), t, Option.bind_some]
    · have h1 : Nat.gcd a b = Nat.gcd b (a % b) := by rw [Nat.gcd_comm a b, Nat.gcd_rec b a, Nat.gcd_comm]
      rw [h1]
      have hm := Nat.mod_lt a (show 0 < b by omega)
      refine Ev.step (f := fun k => (integer_divide.f k (cl a) (cl b)).bind fun bt324 => integer_Gcd.l0 k (cl b) bt324.2) (fun k => by simp only [integer_Gcd.l0]; rw [if_pos (bd_pos.2 h0)]) ?_
      exact Ev.bind (divide_cl a b (by omega) (len_mono ha (Nat.le_refl _) (by decide)) (len_mono hb (Nat.le_refl _) (by decide))) (ih (a % b) hm b hb (len_mono hb (Nat.le_of_lt hm) (Nat.le_refl _)))
theorem gcd_T {x y : Int} (hx : x.natAbs < lim400) (hy : y.natAbs < lim400) : Ev (fun k => integer_Gcd.f k (mkS (T x)) (mkS (T y))) (res (Nat.gcd x.natAbs y.natAbs : Nat)) := by
  unfold integer_Gcd.f
  exact Ev.bind (both_T hx hy) (Ev.congr (fun k => if_pos rfl) (Ev.bind (read_T hx) (Ev.bind (read_T hy) (gcd_loop y.natAbs x.natAbs (len_lim hx) (len_lim hy)))))
/-! texts that are not canonical -/
theorem divmod_bad (s t : ByteArray) (hs : s.size ≤ 140737488351232) (ht : t.size ≤ 140737488351232) (h : (vB (lst s) && vB (lst t)) = false) : Ev (fun k => integer_DivMod.f k s t) (mkS [], mkS [], 3) := by
  unfold integer_DivMod.f
  have hb := both_ev s t hs ht
  rw [h] at hb
  exact Ev.bind hb (Ev.congr (f := fun _ => some (mkS [], mkS [], 3)) (fun k => if_neg (by decide)) (Ev.now _))
theorem divmod_zero {x : Int} (hx : x.natAbs < lim400) : Ev (fun k => integer_DivMod.f k (mkS (T x)) (mkS (T 0))) (mkS [], mkS [], 24) := by
  unfold integer_DivMod.f
  refine Ev.bind (both_T hx lim_pos) (Ev.congr (f := fun _ => some (mkS [], mkS [], 24)) (fun k => ?_) (Ev.now _))
  rw [if_pos rfl, if_pos (by rw [toList_lst, lst_mkS, T_zero])]
  rfl
theorem gcd_bad (s t : ByteArray) (hs : s.size ≤ 140737488351232) (ht : t.size ≤ 140737488351232) (h : (vB (lst s) && vB (lst t)) = false) : Ev (fun k => integer_Gcd.f k s t) (mkS [], 3) := by
  unfold integer_Gcd.f
  have hb := both_ev s t hs ht
  rw [h] at hb
  exact Ev.bind hb (Ev.congr (f := fun _ => some (mkS [], 3)) (fun k => if_neg (by decide)) (Ev.now _))
end Go.Proofs.YtdnjlmoggnbknaaDoor.PInt
