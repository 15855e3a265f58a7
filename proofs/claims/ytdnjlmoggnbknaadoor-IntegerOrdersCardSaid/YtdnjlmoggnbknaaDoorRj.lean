/- The pure law of IntegerOrders: Small, Cmp and Neg agree with the document's. No condition. -/
import Derived.Test.YtdnjlmoggnbknaaDoorRa
import Derived.Test.YtdnjlmoggnbknaaDoorIj
namespace Go.Proofs.YtdnjlmoggnbknaaDoor.PInt
open Go.RowKit Go.Proofs.YtdnjlmoggnbknaaDoor.Ext Go.Proofs.YtdnjlmoggnbknaaDoorW.PrintWords Go.Proofs.YtdnjlmoggnbknaaDoor.Dec
set_option linter.unusedVariables false
set_option linter.unusedSimpArgs false

theorem rcmpz_num (x y : Int) (hx : x.natAbs < lim400) (hy : y.natAbs < lim400) : Ev (fun k => cellarerref02_Cmp.f k (rnum x).1 (rnum x).2 (rnum y).1 (rnum y).2) (cmpI x y) := by
  unfold cellarerref02_Cmp.f
  refine Ev.bind (rsub_num x y (wide hx) (wide hy)) ?_
  have e2 : ((rnum (x - y)).2.length : Int) = (rn (x - y).natAbs).length := rfl
  by_cases h0 : x = y
  · subst h0
    rw [cmpI_eq]
    exact Ev.congr (fun k => if_pos (by rw [Int.sub_self, show (rnum 0).2 = [] from rn_zero]; rfl)) (Ev.now _)
  · have hl : rn (x - y).natAbs ≠ [] := fun h => h0 (by have := rn_nil.1 h; omega)
    have hp := List.length_pos_iff.2 hl
    refine Ev.congr (fun k => if_neg (by omega)) ?_
    by_cases hlt : x < y
    · rw [cmpI_lt hlt]
      exact Ev.congr (fun k => if_pos (decide_eq_true (by omega))) (Ev.now _)
    · rw [cmpI_gt (by omega)]
      exact Ev.congr (fun k => if_neg (by unfold rnum; simp; omega)) (Ev.now _)
theorem rsmall_loop (neg : Bool) (A : List Int) (oA : L1.okL A) (lA : A.length ≤ 1000) (hV : rl A ≤ 9223372036854775808) (R : Int × Bool)
    (fin : Ev (fun k => cellarerref02_Small.l0 k (-(rl A)) (A.length : Int) neg A) R) :
    ∀ (r p : List Int), A = p ++ r → Ev (fun k => cellarerref02_Small.l0 k (-(rl p)) (p.length : Int) neg A) R := by
  intro r
  induction r with
  | nil =>
    intro p hA
    rw [List.append_nil] at hA
    subst hA
    exact fin
  | cons d r ih =>
    intro p hA
    have hla : A.length = p.length + (r.length + 1) := by rw [hA]; simp
    obtain ⟨o1, o2⟩ := L1.okL_app (by rw [← hA]; exact oA : L1.okL (p ++ d :: r))
    have hd := (L1.okL_cons o2).1
    have h0 := rl_nonneg o1
    have e : rl (p ++ [d]) = 10 * rl p + d := by
      rw [rl_app, rl_cons, rl_nil, List.length_singleton, List.length_nil, L1.pw_succ, L1.pw_zero]
      omega
    have hb : rl (p ++ [d]) ≤ rl A := by
      rw [hA, show p ++ d :: r = (p ++ [d]) ++ r by simp, rl_app (p ++ [d]) r]
      have h1 := rl_nonneg (L1.okL_cons o2).2
      have h2 := L1.pw_pos r.length
      have h3 : 0 ≤ rl (p ++ [d]) := by omega
      have h4 : 1 * rl (p ++ [d]) ≤ L1.pw r.length * rl (p ++ [d]) := Int.mul_le_mul_of_nonneg_right (by omega) h3
      omega
    have hrd : rd A (p.length : Int) = d := rd_mid hA rfl
    have hw : wrap64 ((p.length : Int) + 1) = ((p ++ [d]).length : Int) := by rw [wrap_ok (by omega) (by omega)]; simp
    have ih' := ih (p ++ [d]) (by rw [hA]; simp)
    rw [e] at ih' hb
    refine Ev.step (fun k => ?_) ih'
    simp only [cellarerref02_Small.l0]
    rw [if_pos (by omega), if_pos (by omega), hrd, wrap_ok (i := 10 * -(rl p)) (by omega) (by omega), wrap_ok (i := 10 * -(rl p) - d) (by omega) (by omega), hw, show 10 * -(rl p) - d = -(10 * rl p + d) by omega]
theorem S_max : (⟨#[57, 50, 50, 51, 51, 55, 50, 48, 51, 54, 56, 53, 52, 55, 55, 53, 56, 48, 55]⟩ : ByteArray) = mkS (T 9223372036854775807) := by decide +kernel
theorem S_min : (⟨#[45, 57, 50, 50, 51, 51, 55, 50, 48, 51, 54, 56, 53, 52, 55, 55, 53, 56, 48, 56]⟩ : ByteArray) = mkS (T (-9223372036854775808)) := by decide +kernel
theorem lim_i64 {z : Int} (h : i64 z) : z.natAbs < lim400 := p10_lim (i64_lim h) (by decide)
theorem rsmall_num (x : Int) (hx : x.natAbs < lim400) : Ev (fun k => cellarerref02_Small.f k (rnum x).1 (rnum x).2) (smallI x) := by
  have m1 : i64 9223372036854775807 := by decide
  have m2 : i64 (-9223372036854775808) := by decide
  have no : Ev (fun k => cellarerref02_Small.j0 k true (rnum x).1 (rnum x).2) (0, false) := Ev.step (f := fun _ => some (0, false)) (fun k => by simp only [cellarerref02_Small.j0]; first | rw [if_pos rfl] | rw [if_pos trivial]) (Ev.now _)
  unfold cellarerref02_Small.f
  rw [S_max, S_min]
  refine Ev.bind (rof_T (lim_i64 m1)) (Ev.bind (rcmpz_num x _ hx (lim_i64 m1)) ?_)
  by_cases h1 : 9223372036854775807 < x
  · rw [cmpI_gt h1, show smallI x = (0, false) from if_neg (by omega)]
    exact Ev.congr (fun k => if_pos (by decide)) no
  · refine Ev.congr (fun k => if_neg (by unfold cmpI; rw [if_neg h1]; split <;> decide)) (Ev.bind (rof_T (lim_i64 m2)) (Ev.bind (rcmpz_num x _ hx (lim_i64 m2)) ?_))
    by_cases h2 : x < -9223372036854775808
    · rw [cmpI_lt h2, show smallI x = (0, false) from if_neg (by omega)]
      exact no
    · have hi : i64 x := by unfold i64; omega
      rw [smallI_in hi, show decide (cmpI x (-9223372036854775808) < 0) = false from decide_eq_false (by unfold cmpI; rw [if_neg h2]; split <;> decide)]
      refine Ev.step (fun k => by simp only [cellarerref02_Small.j0]; rw [if_neg (by decide)]) ?_
      have lx := (rn_len 400 _).2 hx
      have e2 : ((rnum x).2.length : Int) = (rn x.natAbs).length := rfl
      refine rsmall_loop (rnum x).1 (rn x.natAbs) (rn_ok _) (by omega) (by rw [rl_rn]; unfold i64 at hi; omega) (x, true) ?_ (rn x.natAbs) [] rfl
      rw [rl_rn]
      unfold i64 at hi
      by_cases hn : x < 0
      · refine Ev.step (f := fun _ => some (x, true)) (fun k => ?_) (Ev.now _)
        simp only [cellarerref02_Small.l0]
        rw [if_neg (by omega), show (rnum x).1 = true from decide_eq_true hn, show -(x.natAbs : Int) = x by omega]
        first | rw [if_pos rfl] | rw [if_pos trivial]
      · refine Ev.step (f := fun _ => some (x, true)) (fun k => ?_) (Ev.now _)
        simp only [cellarerref02_Small.l0]
        rw [if_neg (by omega), show (rnum x).1 = false from decide_eq_false hn, if_neg (by decide), wrap_ok (by omega) (by omega), show - -(x.natAbs : Int) = x by omega]
/-- The pure law of IntegerOrders. -/
theorem IntegerOrders : cellarerlaw02_IntegerOrders.Pure := by
  intro a b ha hb
  refine Ev.rounds (r := true) ?_
  unfold cellarerlaw02_IntegerOrders.f
  refine Ev.bind awake_ev (Ev.congr (fun k => if_pos rfl) ?_)
  rw [long_ev]
  by_cases hl : (a.size : Int) > 420 ∨ (b.size : Int) > 420
  · rw [decide_eq_true hl]
    exact Ev.congr (f := fun _ => some true) (fun k => by rw [Option.bind_some, if_pos rfl]) (Ev.now _)
  · rw [decide_eq_false hl]
    refine Ev.congr (fun k => by rw [Option.bind_some, if_neg (by decide)]) ?_
    have ra := rvalid_ev a ha
    have rb := rvalid_ev b hb
    cases hva : vB (lst a) with
    | false =>
      rw [hva] at ra
      refine Ev.bind (small_bad a ha hva) (Ev.bind (cmp_bad a b ha hb (by rw [hva, Bool.false_and])) (Ev.bind (neg_bad a ha hva) (Ev.bind ra ?_)))
      exact Ev.congr (f := fun _ => some true) (fun k => by rw [if_neg (by decide), if_pos rfl, toList_lst, lst_mkS, if_pos rfl, if_pos rfl]; rfl) (Ev.now _)
    | true =>
      rw [hva] at ra
      obtain ⟨x, rfl, hx⟩ := valid_num hva
      have tail : ∀ c : Int, (∀ y : Int, b = mkS (T y) → y.natAbs < lim400 → c = cmpI x y) → (vB (lst b) = false → c = 0) → Ev (fun k => cellarerlaw02_IntegerOrders.j0 k (mkS (T x)) b c false) true := by
        intro c c1 c2
        refine Ev.step (fun k => by simp only [cellarerlaw02_IntegerOrders.j0]; rw [if_neg (by decide)]) (Ev.bind rb ?_)
        cases hvb : vB (lst b) with
        | false =>
          rw [c2 hvb]
          exact Ev.congr (f := fun _ => some true) (fun k => by rw [if_neg (by decide)]; rfl) (Ev.now _)
        | true =>
          obtain ⟨y, hy1, hy⟩ := valid_num hvb
          have hc := c1 y hy1 hy
          subst hy1 hc
          refine Ev.congr (fun k => if_pos rfl) (Ev.bind (rof_T hx) (Ev.bind (rof_T hy) (Ev.bind (rcmpz_num x y hx hy) ?_)))
          exact Ev.congr (f := fun _ => some true) (fun k => by rw [beq_self_eq_true]) (Ev.now _)
      obtain ⟨c, hc, c1, c2⟩ : ∃ c : Int, Ev (fun k => integer_Cmp.f k (mkS (T x)) b) c ∧ (∀ y : Int, b = mkS (T y) → y.natAbs < lim400 → c = cmpI x y) ∧ (vB (lst b) = false → c = 0) := by
        cases hvb : vB (lst b) with
        | false =>
          refine ⟨0, cmp_bad (mkS (T x)) b ha hb (by rw [hvb, Bool.and_false]), fun y h hy => ?_, fun _ => rfl⟩
          rw [h, lst_mkS, vB_T hy] at hvb
          exact absurd hvb (by decide)
        | true =>
          obtain ⟨y, hy1, hy⟩ := valid_num hvb
          subst hy1
          refine ⟨cmpI x y, cmp_T hx hy, fun z h hz => ?_, fun h => absurd h (by decide)⟩
          have h2 := congrArg lst h
          rw [lst_mkS, lst_mkS] at h2
          rw [T_inj h2]
      have hneg : (-x).natAbs < p10 1000 := by rw [Int.natAbs_neg]; exact wide hx
      refine Ev.bind (small_T hx) (Ev.bind hc (Ev.bind (neg_T hx) (Ev.bind ra (Ev.congr (fun k => if_pos rfl) (Ev.bind (rof_T hx) (Ev.bind (rsmall_num x hx) ?_))))))
      refine Ev.congr (fun k => by rw [if_pos rfl, if_neg (by rw [bne_self_eq_false]; decide)]) (Ev.bind (rof_T hx) (Ev.bind (rneg_num x) (Ev.bind (rtext_ev (-x) hneg) ?_)))
      rw [bne_self_eq_false]
      exact tail c c1 c2
end Go.Proofs.YtdnjlmoggnbknaaDoor.PInt
