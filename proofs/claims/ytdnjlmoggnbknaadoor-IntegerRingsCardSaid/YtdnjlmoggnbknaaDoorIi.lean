/- The chapter's examples come out true; small laws that the pure laws of law02 share. No condition. -/
import Derived.Test.YtdnjlmoggnbknaaDoorIh
namespace Go.Proofs.YtdnjlmoggnbknaaDoor.PInt
open Go.RowKit Go.Proofs.YtdnjlmoggnbknaaDoor.Ext Go.Proofs.YtdnjlmoggnbknaaDoorW.PrintWords Go.Proofs.YtdnjlmoggnbknaaDoor.Dec
set_option linter.unusedVariables false
set_option linter.unusedSimpArgs false
open L9 (cl cl_lv cl_ok cl_tight cl_len cl_nil lv pw okL)

theorem awake_true : cellarerlaw02_awake.f 60 = some true := by decide +kernel
theorem awake_ev : Ev (fun k => cellarerlaw02_awake.f k) true := Ev.of (fun k => cellarerlaw02_awake.mono k) awake_true
theorem res_lt {z : Int} (h : z.natAbs < lim400) : res z = (mkS (T z), 0) := by unfold res; rw [if_pos h]
theorem p10_mul (a b : Nat) : p10 (a + b) = p10 a * p10 b := Nat.pow_add 10 a b
theorem mul_lt {x y : Int} {i j : Nat} (hx : x.natAbs < p10 i) (hy : y.natAbs < p10 j) : (x * y).natAbs < p10 (i + j) := by
  rw [Int.natAbs_mul, p10_mul]
  exact Nat.mul_lt_mul'' hx hy
theorem zero_S : (⟨#[48]⟩ : ByteArray) = mkS (T 0) := by rw [T_zero]; rfl
theorem S_list (z : Int) : (mkS (T z)).toList = T z := by rw [toList_lst, lst_mkS]
theorem T_short' {z : Int} {k : Nat} (h : (mkS (T z)).size ≤ k + 1) : z.natAbs < p10 (k + 1) := by rw [size_mkS] at h; exact T_short h
/-- A canonical text's number. -/
theorem valid_num {s : ByteArray} (h : vB (lst s) = true) : ∃ z : Int, s = mkS (T z) ∧ z.natAbs < lim400 := by
  obtain ⟨z, h1, h2⟩ := T_vB h
  exact ⟨z, lst_inj (by rw [h1, lst_mkS]), h2⟩
theorem fr_zero {x y : Int} (h : x.natAbs % y.natAbs = 0) : fr x y = 0 := by
  unfold fr off1
  rw [show decide (x.natAbs % y.natAbs ≠ 0) = false from decide_eq_false (fun h' => h' h), Bool.and_false, if_neg (by decide), h]
  unfold sg
  split <;> simp

theorem quot_ev (x y : Int) (hx : x.natAbs < p10 150) (hy : y.natAbs < p10 150) (hy0 : y ≠ 0) : Ev (fun k => cellarerlaw02_IntegerQuotients.j0 k (mkS (T x)) (mkS (T y)) false) true := by
  have lx := p10_lim hx (by decide)
  have ly := p10_lim hy (by decide)
  have hq := Nat.lt_of_le_of_lt (fq_le x y) hx
  have hr := fr_lt (x := x) hy0
  have hm := mul_lt hq hy
  have lm := p10_lim hm (by decide)
  have lr := Nat.lt_trans hr.1 ly
  have e1 := mul_T (p10_lim hq (by decide)) ly
  rw [res_lt lm] at e1
  have e2 := add_T lm lr
  rw [fq_fr x y, res_lt lx] at e2
  refine Ev.step (fun k => by simp only [cellarerlaw02_IntegerQuotients.j0]; rw [if_neg (by decide)]) ?_
  refine Ev.bind (divmod_T lx ly hy0) (Ev.bind e1 (Ev.bind e2 ?_))
  refine Ev.congr (f := fun k => cellarerlaw02_IntegerQuotients.j1 k (mkS (T y)) (mkS (T (fr x y))) false) (fun k => ?_) ?_
  · rw [if_pos rfl, if_pos rfl, if_pos rfl, bne_self_eq_false]
  · by_cases h0 : fr x y = 0
    · refine Ev.step (f := fun _ => some true) (fun k => ?_) (Ev.now _)
      simp only [cellarerlaw02_IntegerQuotients.j1]
      rw [if_neg (by decide), S_list, if_pos (T_eq_zero.2 h0)]
    · have hs := hr.2.resolve_left h0
      refine Ev.step (fun k => by simp only [cellarerlaw02_IntegerQuotients.j1]; rw [if_neg (by decide), S_list, if_neg (fun h => h0 (T_eq_zero.1 h)), zero_S]) ?_
      refine Ev.bind (cmp_T ly lim_pos) (Ev.bind (cmp_T lr lim_pos) ?_)
      have hlt := hr.1
      by_cases hyn : y < 0
      · have hrn := hs.2 hyn
        have c1 : cmpI y 0 = -1 := if_pos hyn
        have c2 : cmpI (fr x y) 0 = -1 := if_pos hrn
        have c3 : cmpI (fr x y) y = 1 := by unfold cmpI; rw [if_neg (by omega), if_pos (by omega)]
        rw [c1, c2]
        refine Ev.congr (fun k => if_pos rfl) (Ev.bind (cmp_T lr ly) ?_)
        rw [c3]
        exact Ev.congr (f := fun _ => some true) (fun _ => by rw [wrap_ok (by omega) (by omega)]; rfl) (Ev.now _)
      · have hrn : ¬ fr x y < 0 := fun h => hyn (hs.1 h)
        have c1 : cmpI y 0 = 1 := by unfold cmpI; rw [if_neg (by omega), if_pos (by omega)]
        have c2 : cmpI (fr x y) 0 = 1 := by unfold cmpI; rw [if_neg (by omega), if_pos (by omega)]
        have c3 : cmpI (fr x y) y = -1 := by unfold cmpI; rw [if_pos (by omega)]
        rw [c1, c2]
        refine Ev.congr (fun k => if_pos rfl) (Ev.bind (cmp_T lr ly) ?_)
        rw [c3]
        exact Ev.congr (f := fun _ => some true) (fun _ => by rw [wrap_ok (by omega) (by omega)]; rfl) (Ev.now _)
/-- The pure law of IntegerQuotients. -/
theorem IntegerQuotients : cellarerlaw02_IntegerQuotients.Pure := by
  intro a b ha hb
  refine Ev.rounds (r := true) ?_
  unfold cellarerlaw02_IntegerQuotients.f
  refine Ev.bind awake_ev (Ev.congr (fun k => if_pos rfl) ?_)
  have yes : Ev (fun k => cellarerlaw02_IntegerQuotients.j0 k a b true) true := Ev.step (f := fun _ => some true) (fun k => by simp only [cellarerlaw02_IntegerQuotients.j0]; first | rw [if_pos rfl] | rw [if_pos trivial]) (Ev.now _)
  by_cases h1 : (a.size : Int) > 150
  · exact Ev.congr (fun k => if_pos h1) yes
  · refine Ev.congr (fun k => if_neg h1) ?_
    by_cases h2 : (b.size : Int) > 150
    · exact Ev.congr (fun k => if_pos h2) yes
    · refine Ev.congr (fun k => if_neg h2) (Ev.bind (valid_ev a (by omega)) ?_)
      cases hva : vB (lst a) with
      | false => exact Ev.congr (fun k => if_neg (by decide)) yes
      | true =>
        refine Ev.congr (fun k => if_pos rfl) (Ev.bind (valid_ev b (by omega)) ?_)
        cases hvb : vB (lst b) with
        | false => exact Ev.congr (fun k => if_neg (by decide)) yes
        | true =>
          refine Ev.congr (fun k => if_pos rfl) ?_
          obtain ⟨x, rfl, _⟩ := valid_num hva
          obtain ⟨y, rfl, _⟩ := valid_num hvb
          by_cases hy0 : y = 0
          · have e : ((mkS (T y)).toList == ([48] : List UInt8)) = true := by rw [S_list]; exact beq_iff_eq.2 (T_eq_zero.2 hy0)
            rw [e]
            exact yes
          · have e : ((mkS (T y)).toList == ([48] : List UInt8)) = false := by rw [S_list, beq_eq_false_iff_ne]; exact fun h => hy0 (T_eq_zero.1 h)
            rw [e]
            exact quot_ev x y (T_short' (by omega)) (T_short' (by omega)) hy0

theorem gcd_le' (a b : Nat) : Nat.gcd a b ≤ a + b := by
  rcases Nat.eq_zero_or_pos a with h | h
  · subst h; rw [Nat.gcd_zero_left]; omega
  · have := Nat.gcd_le_left b h; omega
theorem divs_ev (a b c : Int) (ha : a.natAbs < p10 60) (hb : b.natAbs < p10 60) (hc : c.natAbs < p10 60) : Ev (fun k => cellarerlaw02_IntegerDivisors.j0 k (mkS (T a)) (mkS (T b)) (mkS (T c)) false) true := by
  have la := p10_lim ha (by decide)
  have lb := p10_lim hb (by decide)
  have lc := p10_lim hc (by decide)
  have hX := mul_lt ha hc
  have hY := mul_lt hb hc
  have lX := p10_lim hX (by decide)
  have lY := p10_lim hY (by decide)
  have e1 := mul_T la lc
  have e2 := mul_T lb lc
  rw [res_lt lX] at e1
  rw [res_lt lY] at e2
  obtain ⟨G, hG⟩ : ∃ G : Nat, G = Nat.gcd (a * c).natAbs (b * c).natAbs := ⟨_, rfl⟩
  have hGl : ((G : Nat) : Int).natAbs < lim400 := by
    have h1 := gcd_le' (a * c).natAbs (b * c).natAbs
    rw [← hG] at h1
    have h2 : p10 121 = p10 (60 + 60) * 10 := by rw [show (121 : Nat) = (60 + 60) + 1 from rfl, p10_mul (60 + 60) 1]; rfl
    have h3 : p10 121 ≤ lim400 := p10_mono (by decide)
    have h4 : ((G : Nat) : Int).natAbs = G := rfl
    omega
  have e3 := gcd_T lX lY
  rw [← hG, res_lt hGl] at e3
  refine Ev.step (fun k => by simp only [cellarerlaw02_IntegerDivisors.j0]; rw [if_neg (by decide)]) ?_
  refine Ev.bind e1 (Ev.bind e2 (Ev.bind e3 ?_))
  refine Ev.congr (fun k => by rw [if_pos rfl, if_pos rfl, if_pos rfl, zero_S]) (Ev.bind (cmp_T (y := 0) hGl lim_pos) ?_)
  have hneg : decide (cmpI ((G : Nat) : Int) 0 < 0) = false := decide_eq_false (fun h => by have := cmp_neg.1 h; omega)
  rw [hneg]
  by_cases h0 : G = 0
  · have hz := Nat.gcd_eq_zero_iff.1 (by rw [← hG]; exact h0 : Nat.gcd (a * c).natAbs (b * c).natAbs = 0)
    have x0 : a * c = 0 := Int.natAbs_eq_zero.1 hz.1
    have y0 : b * c = 0 := Int.natAbs_eq_zero.1 hz.2
    refine Ev.step (f := fun _ => some true) (fun k => ?_) (Ev.now _)
    simp only [cellarerlaw02_IntegerDivisors.j1]
    rw [if_neg (by decide), S_list, if_pos (T_eq_zero.2 (by omega)), S_list, if_pos (T_eq_zero.2 x0), S_list, T_eq_zero.2 y0]
    rfl
  · have hc0 : c ≠ 0 := by
      rintro rfl
      rw [Int.mul_zero, Int.mul_zero] at hG
      exact h0 hG
    have hGz : ((G : Nat) : Int) ≠ 0 := by omega
    have d1 : (a * c).natAbs % ((G : Nat) : Int).natAbs = 0 := Nat.mod_eq_zero_of_dvd (by rw [hG]; exact Nat.gcd_dvd_left _ _)
    have d2 : (b * c).natAbs % ((G : Nat) : Int).natAbs = 0 := Nat.mod_eq_zero_of_dvd (by rw [hG]; exact Nat.gcd_dvd_right _ _)
    have d3 : ((G : Nat) : Int).natAbs % c.natAbs = 0 := Nat.mod_eq_zero_of_dvd (by
      rw [hG, Int.natAbs_mul, Int.natAbs_mul]
      exact Nat.dvd_gcd (Nat.dvd_mul_left _ _) (Nat.dvd_mul_left _ _))
    refine Ev.step (fun k => by simp only [cellarerlaw02_IntegerDivisors.j1]; rw [if_neg (by decide), S_list, if_neg (fun h => hGz (T_eq_zero.1 h))]) ?_
    refine Ev.bind (divmod_T lX hGl hGz) (Ev.bind (divmod_T lY hGl hGz) (Ev.bind (divmod_T hGl lc hc0) ?_))
    refine Ev.congr (f := fun _ => some true) (fun k => ?_) (Ev.now _)
    rw [fr_zero d1, fr_zero d2, fr_zero d3, if_pos rfl, if_pos rfl, if_pos rfl, S_list, if_pos T_zero, if_pos T_zero, T_zero]
    rfl
/-- The pure law of IntegerDivisors. -/
theorem IntegerDivisors : cellarerlaw02_IntegerDivisors.Pure := by
  intro a b c ha hb hc
  refine Ev.rounds (r := true) ?_
  unfold cellarerlaw02_IntegerDivisors.f
  refine Ev.bind awake_ev (Ev.congr (fun k => if_pos rfl) ?_)
  have yes : Ev (fun k => cellarerlaw02_IntegerDivisors.j0 k a b c true) true := Ev.step (f := fun _ => some true) (fun k => by simp only [cellarerlaw02_IntegerDivisors.j0]; first | rw [if_pos rfl] | rw [if_pos trivial]) (Ev.now _)
  by_cases h1 : (a.size : Int) > 60
  · exact Ev.congr (fun k => if_pos h1) yes
  · refine Ev.congr (fun k => if_neg h1) ?_
    by_cases h2 : (b.size : Int) > 60
    · exact Ev.congr (fun k => if_pos h2) yes
    · refine Ev.congr (fun k => if_neg h2) ?_
      by_cases h3 : (c.size : Int) > 60
      · exact Ev.congr (fun k => if_pos h3) yes
      · refine Ev.congr (fun k => if_neg h3) (Ev.bind (valid_ev a (by omega)) ?_)
        cases hva : vB (lst a) with
        | false => exact Ev.congr (fun k => if_neg (by decide)) yes
        | true =>
          refine Ev.congr (fun k => if_pos rfl) (Ev.bind (valid_ev b (by omega)) ?_)
          cases hvb : vB (lst b) with
          | false => exact Ev.congr (fun k => if_neg (by decide)) yes
          | true =>
            refine Ev.congr (fun k => if_pos rfl) (Ev.bind (valid_ev c (by omega)) ?_)
            cases hvc : vB (lst c) with
            | false => exact yes
            | true =>
              obtain ⟨x, rfl, _⟩ := valid_num hva
              obtain ⟨y, rfl, _⟩ := valid_num hvb
              obtain ⟨z, rfl, _⟩ := valid_num hvc
              exact divs_ev x y z (T_short' (by omega)) (T_short' (by omega)) (T_short' (by omega))
end Go.Proofs.YtdnjlmoggnbknaaDoor.PInt
