/- The pure law of IntegerAdds: Add and Sub agree with the document's. No condition. -/
import Derived.Test.YtdnjlmoggnbknaaDoorRc
namespace Go.Proofs.YtdnjlmoggnbknaaDoor.PInt
open Go.RowKit Go.Proofs.YtdnjlmoggnbknaaDoor.Ext Go.Proofs.YtdnjlmoggnbknaaDoorW.PrintWords Go.Proofs.YtdnjlmoggnbknaaDoor.Dec
set_option linter.unusedVariables false
set_option linter.unusedSimpArgs false

theorem wide {z : Int} (h : z.natAbs < lim400) : z.natAbs < p10 1000 := Nat.lt_of_lt_of_le h (p10_mono (k := 400) (by decide))
theorem wide_sum {x y : Int} (hx : x.natAbs < lim400) (hy : y.natAbs < lim400) : (x + y).natAbs < p10 1000 ∧ (x - y).natAbs < p10 1000 := by
  have h : lim400 * 10 ≤ p10 1000 := by
    have := p10_mul 400 1
    rw [show p10 1 = 10 from rfl] at this
    rw [show lim400 = p10 400 from rfl, ← this]
    exact p10_mono (by decide)
  omega
theorem long_ev (s t : ByteArray) : cellarerlaw02_long.f s t = some (decide ((s.size : Int) > 420 ∨ (t.size : Int) > 420)) := by
  unfold cellarerlaw02_long.f
  by_cases h : (s.size : Int) > 420
  · rw [if_pos h, decide_eq_true (.inl h)]
  · rw [if_neg h]
    congr 1
    rw [decide_eq_decide]
    exact ⟨.inr, fun h' => h'.resolve_left h⟩
/-- What an invalid operand brings. -/
theorem adds_bad (a b : ByteArray) : Ev (fun k => cellarerlaw02_IntegerAdds.j1 k a b (mkS []) 3 (mkS []) 3 true) true := by
  refine Ev.step (f := fun _ => some true) (fun k => ?_) (Ev.now _)
  simp only [cellarerlaw02_IntegerAdds.j1]
  first | rw [if_pos rfl] | rw [if_pos trivial]
  rw [mkS_app, if_pos (by decide), toList_lst, lst_mkS]
  rfl
theorem adds_good (x y : Int) (hx : x.natAbs < lim400) (hy : y.natAbs < lim400) : Ev (fun k => cellarerlaw02_IntegerAdds.j1 k (mkS (T x)) (mkS (T y)) (res (x + y)).1 (res (x + y)).2 (res (x - y)).1 (res (x - y)).2 false) true := by
  have hw := wide_sum hx hy
  refine Ev.step (fun k => by simp only [cellarerlaw02_IntegerAdds.j1]; rw [if_neg (by decide)]) ?_
  refine Ev.bind (rof_T hx) (Ev.bind (rof_T hy) (Ev.bind (radd_num x y (wide hx) (wide hy)) (Ev.bind (agree_ev (x + y) hw.1) ?_)))
  refine Ev.congr (fun k => if_pos rfl) (Ev.bind (rsub_num x y (wide hx) (wide hy)) (Ev.bind (agree_ev (x - y) hw.2) (Ev.now _)))
/-- The pure law of IntegerAdds. -/
theorem IntegerAdds : cellarerlaw02_IntegerAdds.Pure := by
  intro a b ha hb
  refine Ev.rounds (r := true) ?_
  unfold cellarerlaw02_IntegerAdds.f
  refine Ev.bind awake_ev (Ev.congr (fun k => if_pos rfl) ?_)
  rw [long_ev]
  by_cases hl : (a.size : Int) > 420 ∨ (b.size : Int) > 420
  · rw [decide_eq_true hl]
    exact Ev.congr (f := fun _ => some true) (fun k => by rw [Option.bind_some, if_pos rfl]) (Ev.now _)
  · rw [decide_eq_false hl]
    refine Ev.congr (fun k => by rw [Option.bind_some, if_neg (by decide)]) ?_
    have ra := rvalid_ev a ha
    have rb := rvalid_ev b hb
    have va := valid_ev a ha
    have vb := valid_ev b hb
    have bad : (vB (lst a) && vB (lst b)) = false → Ev (fun k => cellarerlaw02_IntegerAdds.j0 k a b (mkS []) 3 (mkS []) 3 false) true := by
      intro h
      refine Ev.step (fun k => by simp only [cellarerlaw02_IntegerAdds.j0]; rw [if_neg (by decide)]) (Ev.bind ra ?_)
      cases hva : vB (lst a) with
      | false => exact Ev.congr (fun k => if_neg (by decide)) (adds_bad a b)
      | true =>
        rw [hva, Bool.true_and] at h
        rw [h] at rb
        exact Ev.congr (fun k => if_pos rfl) (Ev.bind rb (adds_bad a b))
    cases hv : (vB (lst a) && vB (lst b)) with
    | false =>
      refine Ev.bind (add_bad a b ha hb hv) (Ev.bind (sub_bad a b ha hb hv) (Ev.bind va (Ev.bind ra ?_)))
      refine Ev.congr (fun k => if_neg (by rw [bne_self_eq_false]; decide)) (Ev.bind vb (Ev.bind rb ?_))
      rw [bne_self_eq_false]
      exact bad hv
    | true =>
      obtain ⟨h1, h2⟩ := Bool.and_eq_true_iff.1 hv
      rw [h1] at va ra
      rw [h2] at vb rb
      obtain ⟨x, rfl, hx⟩ := valid_num h1
      obtain ⟨y, rfl, hy⟩ := valid_num h2
      refine Ev.bind (add_T hx hy) (Ev.bind (sub_T hx hy) (Ev.bind va (Ev.bind ra ?_)))
      refine Ev.congr (fun k => if_neg (by decide)) (Ev.bind vb (Ev.bind rb ?_))
      refine Ev.step (fun k => by simp only [cellarerlaw02_IntegerAdds.j0]; rw [if_neg (by decide)]) (Ev.bind ra (Ev.congr (fun k => if_pos rfl) (Ev.bind rb ?_)))
      exact adds_good x y hx hy
end Go.Proofs.YtdnjlmoggnbknaaDoor.PInt
