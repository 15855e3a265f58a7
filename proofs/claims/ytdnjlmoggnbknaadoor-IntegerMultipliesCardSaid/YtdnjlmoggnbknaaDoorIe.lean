/- What the program's plus, times and small compute on lists of limbs: sum, product, quotient and remainder by one limb. No condition but sizes. -/
import Derived.Test.YtdnjlmoggnbknaaDoorId
namespace Go.Proofs.YtdnjlmoggnbknaaDoor.PInt
open Go.RowKit Go.Proofs.YtdnjlmoggnbknaaDoor.Ext Go.Proofs.YtdnjlmoggnbknaaDoorW.PrintWords
set_option linter.unusedVariables false
set_option linter.unusedSimpArgs false

theorem tmod_pos {x d : Int} (hx : 0 ≤ x) : Int.tmod x d = x % d := Int.tmod_eq_emod_of_nonneg hx
theorem tdiv_pos {x d : Int} (hx : 0 ≤ x) : Int.tdiv x d = x / d := Int.tdiv_eq_ediv_of_nonneg hx
/-! the product -/
theorem mul_bound {x y c o : Int} (hx : 0 ≤ x ∧ x < 1000000000) (hy : 0 ≤ y ∧ y < 1000000000) (hc : 0 ≤ c ∧ c < 1000000000) (ho : 0 ≤ o ∧ o < 1000000000) : 0 ≤ x * y ∧ x * y ≤ 999999999 * 999999999 ∧ 0 ≤ o + x * y + c ∧ o + x * y + c < 1000000000 * 1000000000 := by
  have h1 : 0 ≤ x * y := Int.mul_nonneg hx.1 hy.1
  have h2 : x * y ≤ 999999999 * 999999999 := Int.mul_le_mul (by omega) (by omega) hy.1 (by omega)
  omega
theorem times_inner (a b : List Int) (i : Nat) (x : Int) (hxi : rd a (i : Int) = x) (hi : i < a.length) (ha : a.length ≤ 1000000) (hbn : b.length ≤ 1000000) (hx : 0 ≤ x ∧ x < 1000000000) (p : List Int) (hp : p.length = i) (zs : List Int) :
    ∀ (br bd qd qr : List Int) (c : Int), b = bd ++ br → bd.length = qd.length → br.length = qr.length → L9.okL br → L9.okL qd → L9.okL qr → 0 ≤ c ∧ c < 1000000000 →
      ∃ q' c', L9.okL q' ∧ (0 ≤ c' ∧ c' < 1000000000) ∧ q'.length = b.length ∧ L9.lv q' + L9.pw b.length * c' = L9.lv qd + L9.pw qd.length * (L9.lv qr + x * L9.lv br + c) ∧
        ∀ R : List Int, (Ev (fun k => integer_times.l0 k a b (p ++ q' ++ c' :: zs) (a.length : Int) ((i + 1 : Nat) : Int)) R → Ev (fun k => integer_times.l1 k a b (p ++ (qd ++ qr) ++ 0 :: zs) (i : Int) c (a.length : Int) (i : Int) (b.length : Int) (qd.length : Int)) R) := by
  intro br
  induction br with
  | nil =>
    intro bd qd qr c hb h1 h2 _ oq _ hc
    have : qr = [] := List.eq_nil_of_length_eq_zero (by rw [← h2]; rfl)
    subst this
    have hbl : b.length = qd.length := by rw [hb, List.append_nil, h1]
    refine ⟨qd, c, oq, hc, hbl.symm, ?_, fun R h => ?_⟩
    · rw [hbl]; simp [L9.lv]
    · rw [List.append_nil]
      refine Ev.step (fun k => ?_) h
      simp only [integer_times.l1]
      have hrd : rd (p ++ qd ++ 0 :: zs) ((i : Int) + b.length) = 0 := rd_mid rfl (by rw [List.length_append, hp, hbl]; omega)
      have hset : (p ++ qd ++ 0 :: zs).set ((i : Int) + b.length).toNat c = p ++ qd ++ c :: zs := by
        rw [set_mid (p ++ qd) 0 c zs (by rw [List.length_append, hp, hbl]; omega)]
        simp
      have hlen : ((p ++ qd ++ 0 :: zs).length : Int) = i + b.length + 1 + zs.length := by rw [List.length_append, List.length_append, List.length_cons, hp, ← hbl]; omega
      rw [if_neg (by omega), wrap_ok (i := (i : Int) + b.length) (by omega) (by omega), if_pos (by omega), if_pos (by omega), hrd, Int.zero_add, wrap_u (by omega) (by omega), hset, wrap_ok (by omega) (by omega)]
      rfl
  | cons y br ih =>
    intro bd qd qr c hb h1 h2 ob oq oqr hc
    cases qr with
    | nil => simp at h2
    | cons o qr =>
      have hy := (L9.okL_cons ob).1
      have ho := (L9.okL_cons oqr).1
      have hm := mul_bound hx hy hc ho
      have hbl : b.length = qd.length + 1 + br.length := by rw [hb, List.length_append, List.length_cons, h1]; omega
      obtain ⟨q', c', g1, g2, g3, g4, g5⟩ := ih (bd ++ [y]) (qd ++ [(o + x * y + c) % 1000000000]) qr ((o + x * y + c) / 1000000000) (by rw [hb]; simp) (by simp [h1]) (by simpa using h2) (L9.okL_cons ob).2 (L9.okL_mk oq (fun z hz => by rw [List.mem_singleton] at hz; subst hz; omega)) (L9.okL_cons oqr).2 (by omega)
      refine ⟨q', c', g1, g2, g3, ?_, fun R h => ?_⟩
      · have hl1 : ∀ v : Int, (qd ++ [v]).length = qd.length + 1 := fun v => by simp
        rw [g4, hl1, L9.lv_snoc, L9.pw_succ, L9.lv, L9.lv]
        generalize L9.pw qd.length = P
        generalize L9.lv qd = U
        generalize L9.lv qr = V
        generalize L9.lv br = W
        have hs : o + x * y + c = (o + x * y + c) % 1000000000 + 1000000000 * ((o + x * y + c) / 1000000000) := by omega
        revert hs
        generalize (o + x * y + c) % 1000000000 = m
        generalize (o + x * y + c) / 1000000000 = q
        intro hs
        have e1 : P * m + 1000000000 * P * (V + x * W + q) = P * (m + 1000000000 * (V + x * W + q)) := by rw [Int.mul_add P m, Int.mul_comm 1000000000 P, Int.mul_assoc]
        have e2 : x * (y + 1000000000 * W) = x * y + 1000000000 * (x * W) := by rw [Int.mul_add, ← Int.mul_assoc, Int.mul_comm x 1000000000, Int.mul_assoc]
        have e3 : m + 1000000000 * (V + x * W + q) = o + 1000000000 * V + (x * y + 1000000000 * (x * W)) + c := by omega
        rw [Int.add_assoc, e1, e2, e3]
      · refine Ev.step (fun k => ?_) (g5 R h)
        simp only [integer_times.l1]
        have hq : ((i : Int) + (qd.length : Int)) = ((p ++ qd).length : Int) := by rw [List.length_append, hp]; omega
        have hL : p ++ (qd ++ o :: qr) ++ 0 :: zs = (p ++ qd) ++ o :: (qr ++ 0 :: zs) := by simp
        have hlen : ((p ++ (qd ++ o :: qr) ++ 0 :: zs).length : Int) = i + qd.length + 1 + qr.length + 1 + zs.length := by rw [hL, List.length_append, List.length_append, List.length_cons, List.length_append, List.length_cons, hp]; omega
        have hrd : rd (p ++ (qd ++ o :: qr) ++ 0 :: zs) ((p ++ qd).length : Int) = o := rd_mid hL rfl
        have hrb : rd b (qd.length : Int) = y := rd_mid hb (by omega)
        have hset : ∀ v, (p ++ (qd ++ o :: qr) ++ 0 :: zs).set ((p ++ qd).length : Int).toNat v = p ++ ((qd ++ [v]) ++ qr) ++ 0 :: zs := fun v => by
          rw [hL, set_mid (p ++ qd) o v _ rfl]
          simp
        have hpq : ((p ++ qd).length : Int) = i + qd.length := by rw [List.length_append, hp]; omega
        have hl1 : ((qd ++ [(o + x * y + c) % 1000000000]).length : Int) = qd.length + 1 := by simp
        rw [if_pos (by omega), wrap_ok (i := (i : Int) + (qd.length : Int)) (by omega) (by omega), if_pos (by omega), if_pos (by omega), if_pos (by omega), if_pos (by omega), if_pos (by omega), if_pos (by omega)]
        rw [hq, hrd, hxi, hrb, wrap_u (i := x * y) (by omega) (by omega), wrap_u (i := o + x * y) (by omega) (by omega), wrap_u (i := o + x * y + c) (by omega) (by omega), tmod_pos (by omega), tdiv_pos (by omega), wrap_u (by omega) (by omega), hset, wrap_ok (i := (qd.length : Int) + 1) (by omega) (by omega), hl1]
theorem times_outer (a b : List Int) (oa : L9.okL a) (ob : L9.okL b) (ha : a.length ≤ 1000000) (hbn : b.length ≤ 1000000) :
    ∀ (ar ad p q : List Int), a = ad ++ ar → p.length = ad.length → q.length = b.length → L9.okL p → L9.okL q →
      Ev (fun k => integer_times.l0 k a b (p ++ q ++ List.replicate ar.length 0) (a.length : Int) (ad.length : Int)) (L9.cl (L9.lv p + L9.pw p.length * (L9.lv q + L9.lv ar * L9.lv b)).toNat) := by
  intro ar
  induction ar with
  | nil =>
    intro ad p q hab hp hq op oq
    have ho := L9.okL_mk op oq
    have hal : a.length = ad.length := by rw [hab, List.append_nil]
    have hpl : (p ++ q).length ≤ 35184372088832 := by rw [List.length_append]; omega
    have e : L9.lv p + L9.pw p.length * (L9.lv q + L9.lv [] * L9.lv b) = L9.lv (p ++ q) := by rw [L9.lv_app]; simp [L9.lv]
    rw [e]
    refine Ev.step (f := fun k => (integer_trimmed.f k (p ++ q)).bind fun t => some t) (fun k => ?_) (Ev.bind (trimmed_cl _ hpl ho) (Ev.now _))
    simp only [integer_times.l0]
    rw [if_neg (by omega), List.length_nil, List.replicate_zero, List.append_nil]
  | cons x ar ih =>
    intro ad p q hab hp hq op oq
    have hoa : L9.okL (x :: ar) := (L9.okL_app (by rw [← hab]; exact oa)).2
    have hx := (L9.okL_cons hoa).1
    have hal : a.length = ad.length + 1 + ar.length := by rw [hab, List.length_append, List.length_cons]; omega
    have hrda : rd a (ad.length : Int) = x := rd_mid hab rfl
    obtain ⟨q', c', g1, g2, g3, g4, g5⟩ := times_inner a b ad.length x hrda (by omega) ha hbn hx p hp (List.replicate ar.length 0) b [] [] q 0 rfl rfl hq.symm ob (fun x hx => by cases hx) oq (by decide)
    have o2 : L9.okL (q' ++ [c']) := L9.okL_mk g1 (fun z hz => by rw [List.mem_singleton] at hz; subst hz; exact g2)
    obtain ⟨h, t, ht⟩ : ∃ h t, q' ++ [c'] = h :: t := by
      cases hq' : q' ++ [c'] with
      | nil => simp at hq'
      | cons h t => exact ⟨h, t, rfl⟩
    have htl : t.length = b.length := by
      have := congrArg List.length ht
      rw [List.length_append, List.length_singleton, List.length_cons, g3] at this
      omega
    rw [ht] at o2
    have ho2 := L9.okL_cons o2
    have ih' := ih (ad ++ [x]) (p ++ [h]) t (by rw [hab]; simp) (by simp [hp]) htl (L9.okL_mk op (fun z hz => by rw [List.mem_singleton] at hz; subst hz; exact ho2.1)) ho2.2
    have e1 : p ++ [h] ++ t ++ List.replicate ar.length 0 = p ++ q' ++ c' :: List.replicate ar.length 0 := by
      have : p ++ [h] ++ t = p ++ (q' ++ [c']) := by rw [ht]; simp
      rw [this]
      simp
    have e2 : L9.lv (p ++ [h]) + L9.pw (p ++ [h]).length * (L9.lv t + L9.lv ar * L9.lv b) = L9.lv p + L9.pw p.length * (L9.lv q + L9.lv (x :: ar) * L9.lv b) := by
      have hv := congrArg L9.lv ht
      have e0 : L9.lv ([] : List Int) = 0 := rfl
      have e9 : L9.lv (h :: t) = h + 1000000000 * L9.lv t := rfl
      rw [L9.lv_snoc, g3, g4, e0, List.length_nil, L9.pw_zero, e9] at hv
      rw [L9.lv_snoc, List.length_append, List.length_singleton, L9.pw_succ, show L9.lv (x :: ar) = x + 1000000000 * L9.lv ar from rfl]
      revert hv
      generalize L9.lv p = U
      generalize L9.pw p.length = P
      generalize L9.lv t = V
      generalize L9.lv ar = A
      generalize L9.lv b = B
      generalize L9.lv q = Q
      intro hv
      have e3 : h + 1000000000 * V = Q + x * B := by omega
      have e4 : (x + 1000000000 * A) * B = x * B + 1000000000 * (A * B) := by rw [Int.add_mul, Int.mul_assoc]
      have e5 : P * h + 1000000000 * P * (V + A * B) = P * (h + 1000000000 * (V + A * B)) := by rw [Int.mul_add P h, Int.mul_comm 1000000000 P, Int.mul_assoc]
      have e6 : h + 1000000000 * (V + A * B) = Q + (x * B + 1000000000 * (A * B)) := by omega
      rw [Int.add_assoc, e5, e6, e4]
    rw [e1, e2] at ih'
    have hsz : (ad ++ [x]).length = ad.length + 1 := by simp
    rw [hsz] at ih'
    have g6 := g5 _ ih'
    rw [List.length_nil, List.nil_append] at g6
    refine Ev.step (fun k => ?_) g6
    simp only [integer_times.l0]
    rw [if_pos (by omega), List.length_cons, List.replicate_succ]
    rfl
/-- times: the product. -/
theorem times_ev (a b : List Int) (oa : L9.okL a) (ob : L9.okL b) (ha : a.length ≤ 1000000) (hb : b.length ≤ 1000000) : Ev (fun k => integer_times.f k a b) (L9.cl (L9.lv a * L9.lv b).toNat) := by
  have h := times_outer a b oa ob ha hb a [] [] (List.replicate b.length 0) rfl rfl (by rw [List.length_replicate]) (fun x hx => by cases hx) (fun x hx => by rw [List.eq_of_mem_replicate hx]; decide)
  have e0 : L9.lv ([] : List Int) = 0 := rfl
  rw [e0, List.length_nil, L9.pw_zero, L9.lv_zeros, Int.zero_add, Int.one_mul, Int.zero_add, List.nil_append, List.replicate_append_replicate] at h
  unfold integer_times.f
  refine Ev.congr (fun k => ?_) h
  have hw : wrap64 ((a.length : Int) + (b.length : Int)) = ((b.length + a.length : Nat) : Int) := by rw [wrap_ok (by omega) (by omega)]; omega
  rw [hw, if_pos (by omega), Int.toNat_natCast, if_pos (by omega)]
  rfl

/-! by one limb -/
end Go.Proofs.YtdnjlmoggnbknaaDoor.PInt
