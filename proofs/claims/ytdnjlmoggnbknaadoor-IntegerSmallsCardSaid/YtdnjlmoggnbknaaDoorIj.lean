/- The pure laws of IntegerSmalls and IntegerRings: machine arithmetic within int64; addition and multiplication are commutative, associative and distributive. No condition. -/
import Derived.Test.YtdnjlmoggnbknaaDoorIi
namespace Go.Proofs.YtdnjlmoggnbknaaDoor.PInt
open Go.RowKit Go.Proofs.YtdnjlmoggnbknaaDoor.Ext Go.Proofs.YtdnjlmoggnbknaaDoorW.PrintWords Go.Proofs.YtdnjlmoggnbknaaDoor.Dec
set_option linter.unusedVariables false
set_option linter.unusedSimpArgs false
open L9 (cl cl_lv cl_ok cl_tight cl_len cl_nil lv pw okL)

theorem tdiv_sg (x y : Int) : Int.tdiv x y = sg (decide (x < 0) != decide (y < 0)) (x.natAbs / y.natAbs) := by
  obtain ⟨n, hn⟩ : ∃ n : Nat, n = x.natAbs := ⟨_, rfl⟩
  obtain ⟨m, hm⟩ : ∃ m : Nat, m = y.natAbs := ⟨_, rfl⟩
  rw [← hn, ← hm]
  unfold sg
  by_cases hx : x < 0
  · have ex : x = -(n : Int) := by omega
    by_cases hy : y < 0
    · have ey : y = -(m : Int) := by omega
      rw [decide_eq_true hx, decide_eq_true hy, if_neg (by decide), ex, ey, Int.neg_tdiv, Int.tdiv_neg, Int.neg_neg, Int.ofNat_tdiv]
    · have ey : y = (m : Int) := by omega
      rw [decide_eq_true hx, decide_eq_false hy, if_pos (by decide), ex, ey, Int.neg_tdiv, Int.ofNat_tdiv]
  · have ex : x = (n : Int) := by omega
    by_cases hy : y < 0
    · have ey : y = -(m : Int) := by omega
      rw [decide_eq_false hx, decide_eq_true hy, if_pos (by decide), ex, ey, Int.tdiv_neg, Int.ofNat_tdiv]
    · have ey : y = (m : Int) := by omega
      rw [decide_eq_false hx, decide_eq_false hy, if_neg (by decide), ex, ey, Int.ofNat_tdiv]
theorem tmod_sg (x y : Int) : Int.tmod x y = sg (decide (x < 0)) (x.natAbs % y.natAbs) := by
  obtain ⟨n, hn⟩ : ∃ n : Nat, n = x.natAbs := ⟨_, rfl⟩
  obtain ⟨m, hm⟩ : ∃ m : Nat, m = y.natAbs := ⟨_, rfl⟩
  rw [← hn, ← hm]
  unfold sg
  have ey : Int.tmod (n : Int) y = ((n % m : Nat) : Int) := by
    by_cases hy : y < 0
    · rw [show y = -(m : Int) by omega, Int.tmod_neg, Int.ofNat_tmod]
    · rw [show y = (m : Int) by omega, Int.ofNat_tmod]
  by_cases hx : x < 0
  · rw [if_pos (decide_eq_true hx), show x = -(n : Int) by omega, Int.neg_tmod, ey]
  · rw [if_neg (by simpa using hx), show x = (n : Int) by omega, ey]
def i64 (x : Int) : Prop := -9223372036854775808 ≤ x ∧ x ≤ 9223372036854775807
instance (x : Int) : Decidable (i64 x) := by unfold i64; infer_instance
theorem i64_lim {x : Int} (h : i64 x) : x.natAbs < p10 19 := by
  have : p10 19 = 10000000000000000000 := rfl
  unfold i64 at h
  omega
theorem quot_range {x y : Int} (hx : i64 x) (hy : y ≠ 0) (hm : ¬ (x = -9223372036854775808 ∧ y = -1)) : i64 (fq x y) ∧ i64 (sg (decide (x < 0) != decide (y < 0)) (x.natAbs / y.natAbs)) := by
  unfold i64 at hx ⊢
  have h1 := fq_le x y
  have h2 : x.natAbs / y.natAbs ≤ x.natAbs := Nat.div_le_self _ _
  have h3 : (decide (x < 0) != decide (y < 0)) = false → (x.natAbs / y.natAbs : Nat) ≤ 9223372036854775807 := by
    intro hs
    by_cases hb : y.natAbs = 1
    · rw [hb, Nat.div_one]
      by_cases hxm : x = -9223372036854775808
      · have hy1 : y = 1 ∨ y = -1 := by omega
        rcases hy1 with h | h
        · subst h hxm; simp at hs
        · exact absurd ⟨hxm, h⟩ hm
      · omega
    · by_cases hx0 : x.natAbs = 0
      · omega
      · have := Nat.div_lt_self (show 0 < x.natAbs by omega) (show 1 < y.natAbs by omega)
        omega
  unfold fq at h1 ⊢
  have ho : off1 x y = true → (decide (x < 0) != decide (y < 0)) = true := by
    unfold off1
    rw [Bool.and_eq_true]
    exact And.left
  revert h1 h3 ho
  generalize x.natAbs / y.natAbs = q at h2 ⊢
  generalize (decide (x < 0) != decide (y < 0)) = s
  generalize off1 x y = o
  unfold sg
  intro h1 h3 ho
  cases s <;> cases o <;> simp at h1 h3 ho ⊢ <;> omega
theorem smallI_in {x : Int} (h : i64 x) : smallI x = (x, true) := if_pos h
theorem smalls_ev (a b : Int) (ha : i64 a) (hb : i64 b) : Ev (fun k => cellarerlaw02_IntegerSmalls.j0 k a b (mkS (T a)) (mkS (T b)) false) true := by
  have la := i64_lim ha
  have lb := i64_lim hb
  have La := p10_lim la (by decide)
  have Lb := p10_lim lb (by decide)
  have e19 : p10 19 = 10000000000000000000 := rfl
  have lab : (a + b).natAbs < p10 20 := by rw [p20]; rw [e19] at la lb; omega
  have Lab := p10_lim lab (by decide)
  have h5 : Ev (fun k => cellarerlaw02_IntegerSmalls.j4 k a b (mkS (T a)) (mkS (T b)) false) true := by
    refine Ev.step (f := fun k => cellarerlaw02_IntegerSmalls.j5 k a b (mkS (T a)) (mkS (T b)) (decide (b = 0 ∨ (a = -9223372036854775808 ∧ b = -1)))) (fun k => ?_) ?_
    · simp only [cellarerlaw02_IntegerSmalls.j4]
      rw [if_neg (by decide)]
      by_cases hb0 : b = 0
      · rw [if_pos hb0, decide_eq_true (.inl hb0)]
      · rw [if_neg hb0]
        by_cases ham : a = -9223372036854775808
        · rw [if_pos ham]
          congr 1
          rw [Bool.eq_iff_iff, beq_iff_eq, decide_eq_true_eq]
          exact ⟨fun h => .inr ⟨ham, h⟩, fun h => h.elim (fun h => absurd h hb0) (fun h => h.2)⟩
        · rw [if_neg ham, decide_eq_false (fun h => h.elim hb0 (fun h => ham h.1))]
    · by_cases hbad : b = 0 ∨ (a = -9223372036854775808 ∧ b = -1)
      · rw [decide_eq_true hbad]
        exact Ev.step (f := fun _ => some true) (fun k => by simp only [cellarerlaw02_IntegerSmalls.j5]; first | rw [if_pos rfl] | rw [if_pos trivial]) (Ev.now _)
      · rw [decide_eq_false hbad]
        have hb0 : b ≠ 0 := fun h => hbad (.inl h)
        have hr := quot_range ha hb0 (fun h => hbad (.inr h))
        obtain ⟨Q, hQ⟩ : ∃ Q, Q = sg (decide (a < 0) != decide (b < 0)) (a.natAbs / b.natAbs) := ⟨_, rfl⟩
        obtain ⟨R, hR⟩ : ∃ R, R = sg (decide (a < 0)) (a.natAbs % b.natAbs) := ⟨_, rfl⟩
        have hRl : R.natAbs ≤ a.natAbs := by rw [hR, sg_abs]; exact Nat.mod_le _ _
        have hfr := (fr_lt (x := a) hb0).1
        have hRz : R = 0 ↔ a.natAbs % b.natAbs = 0 := by
          rw [hR]; unfold sg; split <;> omega
        have hRn : R ≠ 0 → (decide (R < 0) = decide (a < 0)) := by
          intro h
          rw [decide_eq_decide, hR]
          rw [hR] at h
          unfold sg at h ⊢
          by_cases hn : a < 0
          · rw [if_pos (decide_eq_true hn)] at h ⊢; omega
          · rw [if_neg (by simpa using hn)] at h ⊢; omega
        rw [← hQ] at hr
        unfold i64 at hr ha hb
        refine Ev.step (f := fun k => (integer_DivMod.f k (mkS (T a)) (mkS (T b))).bind fun bt804 => cellarerlaw02_IntegerSmalls.j6 k b bt804.1 bt804.2.1 bt804.2.2 Q R (off1 a b)) (fun k => ?_) ?_
        · simp only [cellarerlaw02_IntegerSmalls.j5]
          rw [if_neg (by decide), tdiv_sg, tmod_sg, ← hQ, ← hR, wrap_ok hr.2.1 hr.2.2]
          congr 1
          funext bt
          rw [if_neg hb0]
          by_cases h0 : R = 0
          · rw [if_pos h0]
            have : off1 a b = false := by unfold off1; rw [show decide (a.natAbs % b.natAbs ≠ 0) = false from decide_eq_false (fun h => h (hRz.1 h0)), Bool.and_false]
            rw [this]
          · rw [if_neg h0, hRn h0]
            have : off1 a b = (decide (a < 0) != decide (b < 0)) := by unfold off1; rw [show decide (a.natAbs % b.natAbs ≠ 0) = true from decide_eq_true (fun h => h0 (hRz.2 h)), Bool.and_true]
            rw [this]
        · refine Ev.bind (divmod_T La Lb hb0) ?_
          refine Ev.step (f := fun _ => some true) (fun k => ?_) (Ev.now _)
          cases ho : off1 a b with
          | true =>
            have e1 : fq a b = Q + -1 := by unfold fq; rw [if_pos ho, hQ]
            have e2 : fr a b = R + b := by unfold fr; rw [if_pos ho, hR]
            have hq2 := hr.1
            rw [e1] at hq2 ⊢
            rw [e2] at hfr ⊢
            simp only [cellarerlaw02_IntegerSmalls.j6]
            rw [if_pos trivial, if_pos trivial, wrap_ok (by omega) (by omega), of_T (by omega), Option.bind_some, show Q - 1 = Q + -1 by omega, if_pos rfl, wrap_ok (by omega) (by omega), of_T (by omega), Option.bind_some, beq_self_eq_true]
          | false =>
            have e1 : fq a b = Q := by unfold fq; rw [if_neg (by rw [ho]; decide), hQ]
            have e2 : fr a b = R := by unfold fr; rw [if_neg (by rw [ho]; decide), hR]
            have hq2 := hr.1
            rw [e1] at hq2 ⊢
            rw [e2] at hfr ⊢
            simp only [cellarerlaw02_IntegerSmalls.j6]
            rw [if_neg (by decide), if_pos trivial, of_T (by omega), Option.bind_some, if_pos rfl, of_T (by omega), Option.bind_some, beq_self_eq_true]
  have h3 : ∀ o : Bool, o = decide (¬ i64 (a + b)) → Ev (fun k => cellarerlaw02_IntegerSmalls.j3 k a b (mkS (T a)) (mkS (T b)) 0 (smallI (a + b)).1 (smallI (a + b)).2 o) true := by
    intro o ho
    refine Ev.step (fun k => ?_) h5
    simp only [cellarerlaw02_IntegerSmalls.j3]
    rw [if_pos trivial]
    by_cases hi : i64 (a + b)
    · rw [smallI_in hi, ho, decide_eq_false (fun h => h hi), if_neg (by simp), if_pos rfl]
      unfold i64 at hi
      rw [wrap_ok hi.1 hi.2, bne_self_eq_false]
    · rw [ho, decide_eq_true hi]
      have : smallI (a + b) = (0, false) := if_neg hi
      rw [this, if_neg (by decide), if_neg (by decide)]
  have h2 : Ev (fun k => cellarerlaw02_IntegerSmalls.j2 k a b (mkS (T a)) (mkS (T b)) (cmpI a b)) true := by
    have e2 := add_T La Lb
    rw [res_lt Lab] at e2
    refine Ev.step (fun k => by rw [cellarerlaw02_IntegerSmalls.j2]) ?_
    refine Ev.bind (cmp_T La Lb) (Ev.congr (fun k => if_pos rfl) (Ev.bind e2 (Ev.bind (small_T Lab) ?_)))
    unfold i64 at ha hb
    by_cases hp : a > 0
    · refine Ev.congr (fun k => by rw [if_pos hp, wrap_ok (i := 9223372036854775807 - a) (by omega) (by omega)]) ?_
      by_cases hov : b > 9223372036854775807 - a
      · exact Ev.congr (fun k => if_pos hov) (h3 true (decide_eq_true (by unfold i64; omega)).symm)
      · exact Ev.congr (fun k => by rw [if_neg hov, if_neg (by omega)]) (h3 false (decide_eq_false (by unfold i64; omega)).symm)
    · refine Ev.congr (fun k => by rw [if_neg hp]) ?_
      by_cases hn : a < 0
      · refine Ev.congr (fun k => by rw [if_pos hn, wrap_ok (i := -9223372036854775808 - a) (by omega) (by omega)]) (h3 _ ?_)
        rw [decide_eq_decide]
        unfold i64
        omega
      · exact Ev.congr (fun k => by rw [if_neg hn]) (h3 false (decide_eq_false (by unfold i64; omega)).symm)
  have h1 : ∀ w : Int, (a < b → w = -1) → (a = b → w = 0) → Ev (fun k => cellarerlaw02_IntegerSmalls.j1 k a b (mkS (T a)) (mkS (T b)) w) true := by
    intro w w1 w2
    refine Ev.step (fun k => ?_) h2
    simp only [cellarerlaw02_IntegerSmalls.j1]
    unfold cmpI
    by_cases hgt : a > b
    · rw [if_pos hgt, if_neg (by omega), if_pos (by omega)]
    · rw [if_neg hgt]
      by_cases hlt : a < b
      · rw [if_pos hlt, w1 hlt]
      · rw [if_neg hlt, if_neg (by omega), w2 (by omega)]
  by_cases hlt : a < b
  · exact Ev.step (fun k => by simp only [cellarerlaw02_IntegerSmalls.j0]; rw [if_neg (by decide), if_pos hlt]) (h1 (-1) (fun _ => rfl) (fun h => by omega))
  · exact Ev.step (fun k => by simp only [cellarerlaw02_IntegerSmalls.j0]; rw [if_neg (by decide), if_neg hlt]) (h1 0 (fun h => absurd h hlt) (fun _ => rfl))
/-- The pure law of IntegerSmalls. -/
theorem IntegerSmalls : cellarerlaw02_IntegerSmalls.Pure := by
  intro a b ha0 hb0
  have ha : i64 a := by
    have e1 : IntKind.i64.min = -9223372036854775808 := rfl
    have e2 : IntKind.i64.max = 9223372036854775807 := rfl
    simpa [Lit.wf, i64, e1, e2] using ha0
  have hb : i64 b := by
    have e1 : IntKind.i64.min = -9223372036854775808 := rfl
    have e2 : IntKind.i64.max = 9223372036854775807 := rfl
    simpa [Lit.wf, i64, e1, e2] using hb0
  refine Ev.rounds (r := true) ?_
  unfold cellarerlaw02_IntegerSmalls.f
  refine Ev.bind awake_ev (Ev.congr (fun k => if_pos rfl) ?_)
  have La := p10_lim (i64_lim ha) (by decide)
  have e := small_T La
  rw [smallI_in ha] at e
  refine Ev.congr (fun k => by rw [of_T ha, Option.bind_some, of_T hb, Option.bind_some]) (Ev.bind e ?_)
  refine Ev.congr (fun k => ?_) (smalls_ev a b ha hb)
  rw [if_pos rfl, bne_self_eq_false]
end Go.Proofs.YtdnjlmoggnbknaaDoor.PInt
