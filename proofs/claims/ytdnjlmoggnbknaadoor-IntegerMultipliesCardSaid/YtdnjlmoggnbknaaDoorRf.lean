/- The pure law of IntegerMultiplies: Mul agrees with the document's. No condition. -/
import Derived.Test.YtdnjlmoggnbknaaDoorRe
namespace Go.Proofs.YtdnjlmoggnbknaaDoor.PInt
open Go.RowKit Go.Proofs.YtdnjlmoggnbknaaDoor.Ext Go.Proofs.YtdnjlmoggnbknaaDoorW.PrintWords Go.Proofs.YtdnjlmoggnbknaaDoor.Dec
set_option linter.unusedVariables false
set_option linter.unusedSimpArgs false

theorem mul_bad1 (a b : ByteArray) : Ev (fun k => cellarerlaw02_IntegerMultiplies.j0 k a b (mkS []) 3 true) true := by
  refine Ev.step (f := fun _ => some true) (fun k => ?_) (Ev.now _)
  simp only [cellarerlaw02_IntegerMultiplies.j0]
  first | rw [if_pos rfl] | rw [if_pos trivial]
  rw [toList_lst, lst_mkS]
  rfl
theorem wide_mul {x y : Int} (hx : x.natAbs < lim400) (hy : y.natAbs < lim400) : (x * y).natAbs < p10 1000 :=
  Nat.lt_of_lt_of_le (mul_lt (i := 400) (j := 400) hx hy) (p10_mono (by decide))
/-- The pure law of IntegerMultiplies. -/
theorem IntegerMultiplies : cellarerlaw02_IntegerMultiplies.Pure := by
  intro a b ha hb
  refine Ev.rounds (r := true) ?_
  unfold cellarerlaw02_IntegerMultiplies.f
  refine Ev.bind awake_ev (Ev.congr (fun k => if_pos rfl) ?_)
  rw [long_ev]
  by_cases hl : (a.size : Int) > 420 ∨ (b.size : Int) > 420
  · rw [decide_eq_true hl]
    exact Ev.congr (f := fun _ => some true) (fun k => by rw [Option.bind_some, if_pos rfl]) (Ev.now _)
  · rw [decide_eq_false hl]
    refine Ev.congr (fun k => by rw [Option.bind_some, if_neg (by decide)]) ?_
    have ra := rvalid_ev a ha
    have rb := rvalid_ev b hb
    cases hv : (vB (lst a) && vB (lst b)) with
    | false =>
      refine Ev.bind (mul_bad a b ha hb hv) (Ev.bind ra ?_)
      cases hva : vB (lst a) with
      | false => exact Ev.congr (fun k => if_neg (by decide)) (mul_bad1 a b)
      | true =>
        rw [hva, Bool.true_and] at hv
        rw [hv] at rb
        exact Ev.congr (fun k => if_pos rfl) (Ev.bind rb (mul_bad1 a b))
    | true =>
      obtain ⟨h1, h2⟩ := Bool.and_eq_true_iff.1 hv
      rw [h1] at ra
      rw [h2] at rb
      obtain ⟨x, rfl, hx⟩ := valid_num h1
      obtain ⟨y, rfl, hy⟩ := valid_num h2
      refine Ev.bind (mul_T hx hy) (Ev.bind ra (Ev.congr (fun k => if_pos rfl) (Ev.bind rb ?_)))
      refine Ev.step (fun k => by simp only [cellarerlaw02_IntegerMultiplies.j0]; rw [if_neg (by decide)]) ?_
      exact Ev.bind (rof_T hx) (Ev.bind (rof_T hy) (Ev.bind (rmul_num x y (wide hx) (wide hy)) (Ev.bind (agree_ev (x * y) (wide_mul hx hy)) (Ev.now _))))
end Go.Proofs.YtdnjlmoggnbknaaDoor.PInt
