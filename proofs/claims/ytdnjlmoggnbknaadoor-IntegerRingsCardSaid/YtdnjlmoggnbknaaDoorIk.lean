/- The pure law of IntegerRings: addition and multiplication are commutative, associative and distributive. No condition. -/
import Derived.Test.YtdnjlmoggnbknaaDoorIi
namespace Go.Proofs.YtdnjlmoggnbknaaDoor.PInt
open Go.RowKit Go.Proofs.YtdnjlmoggnbknaaDoor.Ext Go.Proofs.YtdnjlmoggnbknaaDoorW.PrintWords Go.Proofs.YtdnjlmoggnbknaaDoor.Dec
set_option linter.unusedVariables false
set_option linter.unusedSimpArgs false

theorem add_lt {x y : Int} {i : Nat} (hx : x.natAbs < p10 i) (hy : y.natAbs < p10 i) : (x + y).natAbs < p10 (i + 1) := by
  have h := p10_mul i 1
  have e : p10 1 = 10 := rfl
  rw [e] at h
  omega
theorem addE {x y : Int} {i : Nat} (hx : x.natAbs < p10 i) (hy : y.natAbs < p10 i) (hi : i + 1 ≤ 400) : Ev (fun k => integer_Add.f k (mkS (T x)) (mkS (T y))) (mkS (T (x + y)), 0) := by
  have e := add_T (p10_lim hx (by omega)) (p10_lim hy (by omega))
  rwa [res_lt (p10_lim (add_lt hx hy) hi)] at e
theorem mulE {x y : Int} {i j : Nat} (hx : x.natAbs < p10 i) (hy : y.natAbs < p10 j) (hi : i + j ≤ 400) : Ev (fun k => integer_Mul.f k (mkS (T x)) (mkS (T y))) (mkS (T (x * y)), 0) := by
  have e := mul_T (p10_lim hx (by omega)) (p10_lim hy (by omega))
  rwa [res_lt (p10_lim (mul_lt hx hy) hi)] at e
theorem lt_up {x : Int} {i j : Nat} (hx : x.natAbs < p10 i) (h : i ≤ j) : x.natAbs < p10 j := Nat.lt_of_lt_of_le hx (p10_mono h)

theorem rings_ev (a b c : Int) (ha : a.natAbs < p10 90) (hb : b.natAbs < p10 90) (hc : c.natAbs < p10 90) : Ev (fun k => cellarerlaw02_IntegerRings.j0 k (mkS (T a)) (mkS (T b)) (mkS (T c)) false) true := by
  have hab := add_lt ha hb
  have hbc := add_lt hb hc
  have mab := mul_lt ha hb
  have mbc := mul_lt hb hc
  have mac := mul_lt ha hc
  have ha1 := lt_up ha (j := 90 + 1) (by decide)
  have hb1 := lt_up hb (j := 90 + 1) (by decide)
  have hc1 := lt_up hc (j := 90 + 1) (by decide)
  have ms := mul_lt ha hbc
  have h2 : Ev (fun k => cellarerlaw02_IntegerRings.j2 k (mkS (T a)) (mkS (T b)) (mkS (T c)) (mkS (T (a + b))) (mkS (T (b + c))) (mkS (T (a * b))) false) true := by
    have hsub : (a + b - b).natAbs < lim400 := by rw [Int.add_sub_cancel]; exact p10_lim ha (by decide)
    have e4 := sub_T (p10_lim hab (by decide)) (p10_lim hb (by decide))
    rw [res_lt hsub] at e4
    refine Ev.step (fun k => by simp only [cellarerlaw02_IntegerRings.j2]; rw [if_neg (by decide)]) ?_
    refine Ev.bind (mulE ha hbc (by decide)) (Ev.bind (mulE ha hc (by decide)) (Ev.bind (addE mab mac (by decide)) (Ev.bind e4 ?_)))
    refine Ev.congr (f := fun _ => some true) (fun k => ?_) (Ev.now _)
    rw [if_pos rfl, if_pos rfl, if_pos rfl, if_pos rfl, Int.mul_add, if_pos rfl, Int.add_sub_cancel, beq_self_eq_true]
  have h1 : Ev (fun k => cellarerlaw02_IntegerRings.j1 k (mkS (T a)) (mkS (T b)) (mkS (T c)) (mkS (T (a + b))) (mkS (T (b + c))) false) true := by
    refine Ev.step (fun k => by simp only [cellarerlaw02_IntegerRings.j1]; rw [if_neg (by decide)]) ?_
    refine Ev.bind (mulE ha hb (by decide)) (Ev.bind (mulE hb ha (by decide)) (Ev.bind (mulE mab hc (by decide)) (Ev.bind (mulE hb hc (by decide)) (Ev.bind (mulE ha mbc (by decide)) ?_))))
    refine Ev.congr (fun k => ?_) h2
    rw [if_pos rfl, if_pos rfl, if_pos rfl, if_pos rfl, if_pos rfl, Int.mul_comm b a, if_pos rfl, Int.mul_assoc, bne_self_eq_false]
  refine Ev.step (fun k => by simp only [cellarerlaw02_IntegerRings.j0]; rw [if_neg (by decide)]) ?_
  refine Ev.bind (addE ha hb (by decide)) (Ev.bind (addE hb ha (by decide)) (Ev.bind (addE hb hc (by decide)) (Ev.bind (addE hab hc1 (by decide)) (Ev.bind (addE ha1 hbc (by decide)) ?_))))
  refine Ev.congr (fun k => ?_) h1
  rw [if_pos rfl, if_pos rfl, if_pos rfl, if_pos rfl, if_pos rfl, Int.add_comm b a, if_pos rfl, Int.add_assoc, bne_self_eq_false]
/-- The pure law of IntegerRings. -/
theorem IntegerRings : cellarerlaw02_IntegerRings.Pure := by
  intro a b c ha hb hc
  refine Ev.rounds (r := true) ?_
  unfold cellarerlaw02_IntegerRings.f
  refine Ev.bind awake_ev (Ev.congr (fun k => if_pos rfl) ?_)
  have yes : Ev (fun k => cellarerlaw02_IntegerRings.j0 k a b c true) true := Ev.step (f := fun _ => some true) (fun k => by simp only [cellarerlaw02_IntegerRings.j0]; first | rw [if_pos rfl] | rw [if_pos trivial]) (Ev.now _)
  by_cases h1 : (a.size : Int) > 90
  · exact Ev.congr (fun k => if_pos h1) yes
  · refine Ev.congr (fun k => if_neg h1) ?_
    by_cases h2 : (b.size : Int) > 90
    · exact Ev.congr (fun k => if_pos h2) yes
    · refine Ev.congr (fun k => if_neg h2) ?_
      by_cases h3 : (c.size : Int) > 90
      · exact Ev.congr (fun k => if_pos h3) yes
      · refine Ev.congr (fun k => if_neg h3) (Ev.bind (valid_ev a (by omega)) ?_)
        cases hva : vB (lst a) with
        | false => exact Ev.congr (fun k => if_neg (by decide)) yes
        | true =>
          refine Ev.congr (fun k => if_pos rfl) (Ev.bind (valid_ev b (by omega)) ?_)
          cases hvb : vB (lst b) with
          | false => exact Ev.congr (fun k => if_neg (by decide)) yes
          | true =>
            refine Ev.congr (fun k => if_pos rfl) (Ev.bind (valid_ev c (by omega)) ?_)
            cases hvc : vB (lst c) with
            | false => exact yes
            | true =>
              obtain ⟨x, rfl, _⟩ := valid_num hva
              obtain ⟨y, rfl, _⟩ := valid_num hvb
              obtain ⟨z, rfl, _⟩ := valid_num hvc
              exact rings_ev x y z (T_short' (by omega)) (T_short' (by omega)) (T_short' (by omega))
end Go.Proofs.YtdnjlmoggnbknaaDoor.PInt
