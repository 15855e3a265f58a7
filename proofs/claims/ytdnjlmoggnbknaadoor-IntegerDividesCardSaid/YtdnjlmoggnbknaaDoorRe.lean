/- The document's integers, part four: Mul; the pure law of IntegerMultiplies. No condition. -/
import Derived.Test.YtdnjlmoggnbknaaDoorRa
namespace Go.Proofs.YtdnjlmoggnbknaaDoor.PInt
open Go.RowKit Go.Proofs.YtdnjlmoggnbknaaDoor.Ext Go.Proofs.YtdnjlmoggnbknaaDoorW.PrintWords Go.Proofs.YtdnjlmoggnbknaaDoor.Dec
set_option linter.unusedVariables false
set_option linter.unusedSimpArgs false

theorem set_rl {D : List Int} {q : Nat} (h : q < D.length) (v : Int) : rl (D.set q v) = rl D + L1.pw (D.length - 1 - q) * (v - rd D (q : Int)) ∧ (L1.okL D → 0 ≤ v → v < 10 → L1.okL (D.set q v)) := by
  obtain ⟨pre, r, e, hq⟩ := rd_lt (L := D) (i := (q : Int)) (by omega) (by omega)
  obtain ⟨x, hx⟩ : ∃ x, x = rd D (q : Int) := ⟨_, rfl⟩
  rw [← hx] at e ⊢
  clear hx
  subst e
  have hq' : q = pre.length := by omega
  subst hq'
  have hs := set_mid pre x v r (i := (pre.length : Int)) rfl
  rw [Int.toNat_natCast] at hs
  have hl : (pre ++ x :: r).length - 1 - pre.length = r.length := by rw [List.length_append, List.length_cons]; omega
  rw [hs, hl]
  constructor
  · rw [show pre ++ [v] ++ r = pre ++ v :: r by simp, rl_app, rl_app, rl_cons, rl_cons, List.length_cons, List.length_cons, Int.mul_sub]
    omega
  · intro ho v0 v1
    obtain ⟨h1, h2⟩ := L1.okL_app ho
    exact L1.okL_mk (L1.okL_mk h1 (fun y hy => by rw [List.mem_singleton] at hy; subst hy; exact ⟨v0, v1⟩)) (L1.okL_cons h2).2
theorem rd1_ok {D : List Int} (h : L1.okL D) {q : Int} (h0 : 0 ≤ q) (h1 : q < (D.length : Int)) : 0 ≤ rd D q ∧ rd D q < 10 := by
  obtain ⟨pre, r, e, _⟩ := rd_lt h0 h1
  have hm : rd D q ∈ pre ++ rd D q :: r := by simp
  rw [← e] at hm
  exact h _ hm
theorem rmul_carry (na : Bool) (A : List Int) (nb : Bool) (B : List Int) (i j V : Int) (N : Nat) (hN : N ≤ 100000) (hV : V < L1.pw N) :
    ∀ (p : Nat) (D : List Int) (c : Int), p ≤ N → D.length = N → L1.okL D → 0 ≤ c → c ≤ 10 → rl D + L1.pw (N - p) * c = V →
      ∃ D', L1.okL D' ∧ D'.length = N ∧ rl D' = V ∧ ∀ R, Ev (fun k => cellarerref02_Mul.l1 k D' i (wrap64 (j - 1)) na A nb B) R → Ev (fun k => cellarerref02_Mul.l2 k D i j (p : Int) c na A nb B) R := by
  have out : ∀ (p : Nat) (D : List Int) (c : Int), D.length = N → L1.okL D → c = 0 → rl D + L1.pw (N - p) * c = V →
      ∃ D', L1.okL D' ∧ D'.length = N ∧ rl D' = V ∧ ∀ R, Ev (fun k => cellarerref02_Mul.l1 k D' i (wrap64 (j - 1)) na A nb B) R → Ev (fun k => cellarerref02_Mul.l2 k D i j (p : Int) c na A nb B) R := by
    intro p D c hl ho hc he
    subst hc
    rw [Int.mul_zero, Int.add_zero] at he
    refine ⟨D, ho, hl, he, fun R h => Ev.step (fun k => ?_) h⟩
    simp only [cellarerref02_Mul.l2]
    rw [if_neg (by omega)]
  intro p
  induction p with
  | zero =>
    intro D c _ hl ho c0 c1 he
    refine out 0 D c hl ho ?_ he
    by_cases hc : c = 0
    · exact hc
    · have h1 := rl_nonneg ho
      have hp := L1.pw_pos N
      have h2 : L1.pw N * 1 ≤ L1.pw N * c := Int.mul_le_mul_of_nonneg_left (by omega) (by omega)
      rw [Nat.sub_zero] at he
      omega
  | succ q ih =>
    intro D c hp hl ho c0 c1 he
    by_cases hc : c = 0
    · exact out (q + 1) D c hl ho hc he
    · have hd := rd1_ok ho (q := (q : Int)) (by omega) (by omega)
      have ht : 0 ≤ c + rd D (q : Int) ∧ c + rd D (q : Int) < 20 := by omega
      obtain ⟨s1, s2⟩ := set_rl (D := D) (q := q) (by omega) ((c + rd D (q : Int)) % 10)
      obtain ⟨D', g1, g2, g3, g4⟩ := ih (D.set q ((c + rd D (q : Int)) % 10)) ((c + rd D (q : Int)) / 10) (by omega) (by rw [List.length_set, hl]) (s2 ho (by omega) (by omega)) (by omega) (by omega) (by
        rw [s1, ← he, hl, show N - (q + 1) = N - 1 - q by omega, show N - q = (N - 1 - q) + 1 by omega, L1.pw_succ]
        generalize rd D (q : Int) = d at *
        generalize L1.pw (N - 1 - q) = P
        have h := congrArg (P * ·) (show (c + d) % 10 - d + 10 * ((c + d) / 10) = c by omega)
        simp only [Int.mul_add] at h
        rw [Int.mul_assoc]
        rw [Int.mul_left_comm P 10] at h
        omega)
      refine ⟨D', g1, g2, g3, fun R h => Ev.step (fun k => ?_) (g4 R h)⟩
      have e1 : wrap64 (((q + 1 : Nat) : Int) - 1) = (q : Int) := by rw [wrap_ok (by omega) (by omega)]; omega
      simp only [cellarerref02_Mul.l2]
      rw [if_pos (by omega), e1, if_pos (by omega), if_pos (by omega), wrap_ok (i := c + rd D (q : Int)) (by omega) (by omega), Int.tmod_eq_emod_of_nonneg ht.1, Int.tdiv_eq_ediv_of_nonneg ht.1, wrap_ok (by omega) (by omega), Int.toNat_natCast]
theorem mul_lt_pq {a b P Q : Int} (ha : 0 ≤ a) (hb : 0 ≤ b) (h1 : a < P) (h2 : b < Q) : a * b < P * Q := by
  have h3 : a * b ≤ a * Q := Int.mul_le_mul_of_nonneg_left (by omega) ha
  have h4 : a * Q < P * Q := Int.mul_lt_mul_of_pos_right h1 (by omega)
  omega
theorem rl_suffix {p r : List Int} (hp : L1.okL p) : rl r ≤ rl (p ++ r) := by
  rw [rl_app]
  have h1 := rl_nonneg hp
  have h2 := L1.pw_pos r.length
  have := Int.mul_nonneg (show 0 ≤ L1.pw r.length by omega) h1
  omega
theorem wrap_le {i m : Int} (h0 : 0 ≤ i) (h1 : i ≤ m) (h2 : m ≤ 9223372036854775807) : wrap64 i = i := wrap_ok (by omega) (by omega)
theorem v_facts {d m v : Int} (hd : 0 ≤ d ∧ d < 10) (hm : 0 ≤ m ∧ m ≤ 81) (hv : v = d + m) : (0 ≤ v ∧ v ≤ 90) ∧ 0 ≤ v % 10 ∧ v % 10 < 10 ∧ 0 ≤ v / 10 ∧ v / 10 ≤ 10 ∧ v % 10 - d + 10 * (v / 10) = m := by omega
theorem rmul_inner (na : Bool) (A : List Int) (nb : Bool) (B : List Int) (oA : L1.okL A) (oB : L1.okL B) (lA : A.length ≤ 10000) (lB : B.length ≤ 10000) (x : Int) (pa ra : List Int) (hA : A = pa ++ x :: ra) :
    ∀ (n : Nat) (q s : List Int), q.length = n → B = q ++ s → ∀ D : List Int, L1.okL D → D.length = A.length + B.length → rl D = rl ra * rl B + L1.pw ra.length * (x * rl s) →
      ∃ D', L1.okL D' ∧ D'.length = A.length + B.length ∧ rl D' = rl (x :: ra) * rl B ∧ ∀ R, Ev (fun k => cellarerref02_Mul.l0 k D' ((pa.length : Int) - 1) na A nb B) R → Ev (fun k => cellarerref02_Mul.l1 k D (pa.length : Int) ((n : Int) - 1) na A nb B) R := by
  have hla : A.length = pa.length + (ra.length + 1) := by rw [hA]; simp
  obtain ⟨o1, o2⟩ := L1.okL_app (by rw [← hA]; exact oA : L1.okL (pa ++ x :: ra))
  obtain ⟨hx, o3⟩ := L1.okL_cons o2
  intro n
  induction n with
  | zero =>
    intro q s hq hB D oD lD he
    obtain rfl := List.eq_nil_of_length_eq_zero hq
    rw [List.nil_append] at hB
    subst hB
    refine ⟨D, oD, lD, by rw [he, rl_cons, Int.add_mul, Int.mul_assoc], fun R h => Ev.step (fun k => ?_) h⟩
    simp only [cellarerref02_Mul.l1]
    rw [if_neg (by omega), wrap_ok (by omega) (by omega)]
  | succ n ih =>
    intro q s hq hB D oD lD he
    obtain ⟨q, y, rfl⟩ := L1.snoc_of (l := q) (by rintro rfl; simp at hq)
    have hq' : q.length = n := by simpa using hq
    have hB' : B = q ++ y :: s := by rw [hB]; simp
    have hlb : B.length = n + (s.length + 1) := by rw [hB', List.length_append, List.length_cons, hq']
    obtain ⟨o4, o5⟩ := L1.okL_app (by rw [← hB']; exact oB : L1.okL (q ++ y :: s))
    obtain ⟨hy, o6⟩ := L1.okL_cons o5
    have hxy : 0 ≤ x * y ∧ x * y ≤ 81 := ⟨Int.mul_nonneg hx.1 hy.1, by
      have h1 : x * y ≤ 9 * y := Int.mul_le_mul_of_nonneg_right (by omega) hy.1
      omega⟩
    have hexp : D.length - 1 - (pa.length + n + 1) = ra.length + s.length := by omega
    have e1 : D.length - (pa.length + n + 1) = ra.length + s.length + 1 := by omega
    have p1 : pa.length + n + 1 ≤ A.length + B.length := by omega
    have p2 : A.length + B.length ≤ 100000 := by omega
    have hw : wrap64 ((n : Int) - 1) = (n : Int) - 1 := wrap_ok (by omega) (by omega)
    have c1 : (n : Int) ≥ 0 := Int.natCast_nonneg n
    have c2 : (0 : Int) ≤ ((pa.length + n + 1 : Nat) : Int) := Int.natCast_nonneg _
    have hP : pa.length + n + 1 < D.length := by omega
    have c3 : ((pa.length + n + 1 : Nat) : Int) < (D.length : Int) := Int.ofNat_lt.2 hP
    have c4 : (0 : Int) ≤ (pa.length : Int) := Int.natCast_nonneg _
    have c5 : (pa.length : Int) < (A.length : Int) := Int.ofNat_lt.2 (by omega)
    have c6 : (n : Int) < (B.length : Int) := Int.ofNat_lt.2 (by omega)
    have ep : wrap64 (wrap64 ((pa.length : Int) + (n : Int)) + 1) = ((pa.length + n + 1 : Nat) : Int) := by rw [wrap_ok (i := (pa.length : Int) + (n : Int)) (by omega) (by omega), wrap_ok (by omega) (by omega)]; omega
    obtain ⟨V, hVe⟩ : ∃ V, V = rl ra * rl B + L1.pw ra.length * (x * rl (y :: s)) := ⟨_, rfl⟩
    have hV : V < L1.pw (A.length + B.length) := by
      have h1 : rl (y :: s) ≤ rl B := by rw [hB']; exact rl_suffix o4
      have h2 : rl (x :: ra) ≤ rl A := by rw [hA]; exact rl_suffix o1
      have h3 : x * rl (y :: s) ≤ x * rl B := Int.mul_le_mul_of_nonneg_left h1 hx.1
      have hp := L1.pw_pos ra.length
      have h4 : L1.pw ra.length * (x * rl (y :: s)) ≤ L1.pw ra.length * (x * rl B) := Int.mul_le_mul_of_nonneg_left h3 (by omega)
      have h5 : rl ra * rl B + L1.pw ra.length * (x * rl B) = rl (x :: ra) * rl B := by rw [rl_cons, Int.add_mul, Int.mul_assoc]
      have h6 : rl (x :: ra) * rl B ≤ rl A * rl B := Int.mul_le_mul_of_nonneg_right h2 (rl_nonneg oB)
      have h7 := mul_lt_pq (rl_nonneg oA) (rl_nonneg oB) (rl_lt oA) (rl_lt oB)
      rw [L1.pw_add]
      omega
    have hd := rd1_ok oD (q := ((pa.length + n + 1 : Nat) : Int)) c2 c3
    obtain ⟨v, hv⟩ : ∃ v, v = rd D ((pa.length + n + 1 : Nat) : Int) + x * y := ⟨_, rfl⟩
    obtain ⟨v1, v2, v3, v4, v5, v6⟩ := v_facts hd hxy hv
    have w1 : wrap64 (x * y) = x * y := wrap_le hxy.1 hxy.2 (by decide)
    have w2 : wrap64 v = v := wrap_le v1.1 v1.2 (by decide)
    have w3 : wrap64 (v / 10) = v / 10 := wrap_le v4 v5 (by decide)
    have w4 : Int.tmod v 10 = v % 10 := Int.tmod_eq_emod_of_nonneg v1.1
    have w5 : Int.tdiv v 10 = v / 10 := Int.tdiv_eq_ediv_of_nonneg v1.1
    have ej : ((n + 1 : Nat) : Int) - 1 = (n : Int) := (by omega : ∀ m : Nat, ((m + 1 : Nat) : Int) - 1 = (m : Int)) n
    have ex : rd A (pa.length : Int) = x := rd_mid hA rfl
    have ey : rd B (n : Int) = y := rd_mid hB' (by rw [hq'])
    obtain ⟨s1, s2⟩ := set_rl (D := D) hP (v % 10)
    rw [hexp] at s1
    obtain ⟨D1, g1, g2, g3, g4⟩ := rmul_carry na A nb B (pa.length : Int) (n : Int) V (A.length + B.length) p2 hV (pa.length + n + 1) (D.set (pa.length + n + 1) (v % 10)) (v / 10) p1 (by rw [List.length_set, lD]) (s2 oD v2 v3) v4 v5 (by
      rw [s1, ← lD, e1, L1.pw_succ, he, hVe, rl_cons]
      have h := congrArg (L1.pw (ra.length + s.length) * ·) v6
      clear s1 s2 hV v1 v2 v3 v4 v5 v6
      simp only [Int.mul_add] at h
      rw [Int.mul_add x, Int.mul_add (L1.pw ra.length), Int.mul_left_comm x (L1.pw s.length) y, ← Int.mul_assoc (L1.pw ra.length) (L1.pw s.length), ← L1.pw_add, Int.mul_assoc 10, ← h, Int.mul_left_comm _ 10]
      omega)
    obtain ⟨D', i1, i2, i3, i4⟩ := ih q (y :: s) hq' hB' D1 g1 g2 (by rw [g3, hVe])
    refine ⟨D', i1, i2, i3, fun R h => ?_⟩
    have i4' := i4 R h
    rw [← hw] at i4'
    refine Ev.step (fun k => ?_) (g4 R i4')
    simp only [cellarerref02_Mul.l1]
    rw [ej, if_pos c1, ep, if_pos c2, if_pos c3, if_pos c4, if_pos c5, if_pos c1, if_pos c6, ex, ey, w1, ← hv, w2, w4, w5, w3, Int.toNat_natCast]
theorem rmul_outer (na : Bool) (A : List Int) (nb : Bool) (B : List Int) (oA : L1.okL A) (oB : L1.okL B) (lA : A.length ≤ 10000) (lB : B.length ≤ 10000) :
    ∀ (n : Nat) (pa ra : List Int), pa.length = n → A = pa ++ ra → ∀ D : List Int, L1.okL D → D.length = A.length + B.length → rl D = rl ra * rl B →
      Ev (fun k => cellarerref02_Mul.l0 k D ((n : Int) - 1) na A nb B) (rnum (sg (na != nb) (rl A * rl B).toNat)) := by
  intro n
  induction n with
  | zero =>
    intro pa ra hn hA D oD lD he
    obtain rfl := List.eq_nil_of_length_eq_zero hn
    rw [List.nil_append] at hA
    subst hA
    have e := make0_ev (na != nb) D oD
    rw [he] at e
    refine Ev.step (fun k => ?_) (Ev.bind e (Ev.now _))
    simp only [cellarerref02_Mul.l0]
    rw [if_neg (by omega)]
  | succ n ih =>
    intro pa ra hn hA D oD lD he
    obtain ⟨pa, x, rfl⟩ := L1.snoc_of (l := pa) (by rintro rfl; simp at hn)
    have hn' : pa.length = n := by simpa using hn
    have hA' : A = pa ++ x :: ra := by rw [hA]; simp
    obtain ⟨D', g1, g2, g3, g4⟩ := rmul_inner na A nb B oA oB lA lB x pa ra hA' B.length B [] rfl (by simp) D oD lD (by rw [he, rl_nil, Int.mul_zero, Int.mul_zero, Int.add_zero])
    refine Ev.step (fun k => ?_) (g4 _ (by rw [hn']; exact ih pa (x :: ra) hn' hA' D' g1 g2 g3))
    have ej : ((n + 1 : Nat) : Int) - 1 = (n : Int) := by omega
    simp only [cellarerref02_Mul.l0]
    rw [ej, if_pos (by omega), wrap_ok (by omega) (by omega), hn']
theorem rmul_num (x y : Int) (hx : x.natAbs < p10 1000) (hy : y.natAbs < p10 1000) : Ev (fun k => cellarerref02_Mul.f k (rnum x).1 (rnum x).2 (rnum y).1 (rnum y).2) (rnum (x * y)) := by
  have lx := (rn_len 1000 _).2 hx
  have ly := (rn_len 1000 _).2 hy
  have e := rmul_outer (decide (x < 0)) (rn x.natAbs) (decide (y < 0)) (rn y.natAbs) (rn_ok _) (rn_ok _) (by omega) (by omega) (rn x.natAbs).length (rn x.natAbs) [] rfl (by simp) (List.replicate ((rn x.natAbs).length + (rn y.natAbs).length) 0)
    (fun z hz => by rw [(List.mem_replicate.1 hz).2]; exact ⟨by decide, by decide⟩) (by simp) (by unfold rl; rw [List.reverse_replicate, L1.lv_zeros, List.reverse_nil]; simp [L1.lv])
  rw [rl_rn, rl_rn, ← Int.natCast_mul, Int.toNat_natCast, sg_mul] at e
  unfold cellarerref02_Mul.f
  have e1 : (rnum x).2 = rn x.natAbs := rfl
  have e2 : (rnum y).2 = rn y.natAbs := rfl
  refine Ev.congr (fun k => ?_) e
  rw [e1, e2, wrap_ok (i := ((rn x.natAbs).length : Int) + ((rn y.natAbs).length : Int)) (by omega) (by omega), if_pos (by omega), if_pos (by omega), wrap_ok (by omega) (by omega), show (((rn x.natAbs).length : Int) + ((rn y.natAbs).length : Int)).toNat = (rn x.natAbs).length + (rn y.natAbs).length by omega]
  rfl
end Go.Proofs.YtdnjlmoggnbknaaDoor.PInt
