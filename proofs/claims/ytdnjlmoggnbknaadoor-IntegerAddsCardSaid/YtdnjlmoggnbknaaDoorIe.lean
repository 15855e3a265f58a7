/- What the program's plus, times and small compute on lists of limbs: sum, product, quotient and remainder by one limb. No condition but sizes. -/
import Derived.Test.YtdnjlmoggnbknaaDoorId
namespace Go.Proofs.YtdnjlmoggnbknaaDoor.PInt
open Go.RowKit Go.Proofs.YtdnjlmoggnbknaaDoor.Ext Go.Proofs.YtdnjlmoggnbknaaDoorW.PrintWords
set_option linter.unusedVariables false
set_option linter.unusedSimpArgs false

theorem tmod_pos {x d : Int} (hx : 0 ≤ x) : Int.tmod x d = x % d := Int.tmod_eq_emod_of_nonneg hx
theorem tdiv_pos {x d : Int} (hx : 0 ≤ x) : Int.tdiv x d = x / d := Int.tdiv_eq_ediv_of_nonneg hx
theorem plus_step (k : Nat) (b p r : List Int) (x c : Int) (n : Int) (hn : n = ((p ++ x :: r).length : Int)) (hl : (p ++ x :: r).length ≤ 1000001) (hx : 0 ≤ x ∧ x < 1000000000) (hc : c = 0 ∨ c = 1) (ob : L9.okL b) :
    integer_plus.l0 (k + 1) b (p ++ x :: r) c n (p.length : Int) = integer_plus.l0 k b ((p ++ [(x + c + rd b (p.length : Int)) % 1000000000]) ++ r) ((x + c + rd b (p.length : Int)) / 1000000000) n ((p ++ [x]).length : Int) := by
  have hb := rd_ok b ob (p.length : Int)
  have hpl : ((p ++ x :: r).length : Int) = p.length + 1 + r.length := by simp; omega
  have hp1 : ((p ++ [x]).length : Int) = p.length + 1 := by simp
  have hrd : rd (p ++ x :: r) (p.length : Int) = x := rd_mid rfl rfl
  have hw : wrap64 ((p.length : Int) + 1) = ((p ++ [x]).length : Int) := by rw [wrap_ok (by omega) (by omega), hp1]
  have hset2 : ∀ v, (p ++ x :: r).set (p.length : Int).toNat v = (p ++ [v]) ++ r := fun v => set_mid p x v r rfl
  simp only [integer_plus.l0]
  rw [if_pos (by omega), if_pos (by omega), if_pos (by omega), hrd]
  by_cases hbl : (p.length : Int) < (b.length : Int)
  · rw [if_pos hbl, wrap_u (i := x + c) (by omega) (by omega), wrap_u (i := x + c + rd b (p.length : Int)) (by omega) (by omega), tmod_pos (by omega), tdiv_pos (by omega), wrap_u (by omega) (by omega), hset2, hw]
  · rw [if_neg hbl, rd_out b _ (by omega), Int.add_zero, wrap_u (i := x + c) (by omega) (by omega), tmod_pos (by omega), tdiv_pos (by omega), wrap_u (by omega) (by omega), hset2, hw]
theorem plus_loop (b : List Int) (ob : L9.okL b) : ∀ (r p : List Int) (c : Int), (c = 0 ∨ c = 1) → L9.okL p → L9.okL r → (p ++ r).length ≤ 1000001 →
    ∃ out c', L9.okL out ∧ out.length = (p ++ r).length ∧ (c' = 0 ∨ c' = 1) ∧ L9.lv out + c' * L9.pw (p ++ r).length + L9.lv (b.take p.length) = L9.lv (p ++ r) + L9.lv (b.take (p ++ r).length) + c * L9.pw p.length ∧
      Ev (fun k => integer_plus.l0 k b (p ++ r) c ((p ++ r).length : Int) (p.length : Int)) (L9.trim out) := by
  intro r
  induction r with
  | nil =>
    intro p c hc op _ hl
    refine ⟨p, c, op, by simp, hc, by rw [List.append_nil]; omega, ?_⟩
    rw [List.append_nil] at hl ⊢
    refine Ev.step (f := fun k => (integer_trimmed.f k p).bind fun t => some t) (fun k => ?_) (Ev.bind (trimmed_ev _ p rfl (by omega)) (Ev.now _))
    simp only [integer_plus.l0]
    rw [if_neg (by omega)]
  | cons x r ih =>
    intro p c hc op or hl
    have hx := (L9.okL_cons or).1
    have hb := rd_ok b ob (p.length : Int)
    have hlen : ∀ v : Int, ((p ++ [v]) ++ r).length = (p ++ x :: r).length := fun v => by simp
    have hp1 : ∀ v : Int, (p ++ [v]).length = p.length + 1 := fun v => by simp
    obtain ⟨out, c', h1, h2, h3, h4, h5⟩ := ih (p ++ [(x + c + rd b (p.length : Int)) % 1000000000]) ((x + c + rd b (p.length : Int)) / 1000000000) (by omega) (L9.okL_mk op (fun y hy => by rw [List.mem_singleton] at hy; subst hy; omega)) (L9.okL_cons or).2 (by rw [hlen]; exact hl)
    rw [hlen] at h2 h4 h5
    refine ⟨out, c', h1, h2, h3, ?_, Ev.step (fun k => plus_step k b p r x c _ rfl hl hx hc ob) (by rw [hp1] at h5 ⊢; exact h5)⟩
    have e1 : L9.lv (p ++ x :: r) = L9.lv p + L9.pw p.length * (x + 1000000000 * L9.lv r) := by rw [L9.lv_app, L9.lv]
    rw [hp1, take_rd, L9.lv_app, L9.lv_snoc, hp1, L9.pw_succ] at h4
    rw [e1]
    generalize hy : rd b (p.length : Int) = y at h4 hb ⊢
    have hs : x + c + y = (x + c + y) % 1000000000 + 1000000000 * ((x + c + y) / 1000000000) := by omega
    revert h4 hs
    generalize (x + c + y) % 1000000000 = m
    generalize (x + c + y) / 1000000000 = q
    generalize L9.pw p.length = P
    generalize L9.lv r = R
    generalize L9.lv p = U
    generalize L9.lv (b.take p.length) = V
    generalize L9.lv out = O
    generalize L9.lv (List.take (p ++ x :: r).length b) = W
    generalize c' * L9.pw (p ++ x :: r).length = Z
    intro h4 hs
    have e2 : P * m = P * x + c * P + P * y - P * (1000000000 * q) := by
      have : m = x + c + y - 1000000000 * q := by omega
      rw [this, Int.mul_sub, Int.mul_add, Int.mul_add, Int.mul_comm P c]
    have e3 : P * (x + 1000000000 * R) = P * x + P * (1000000000 * R) := Int.mul_add _ _ _
    have e4 : 1000000000 * P * R = P * (1000000000 * R) := by rw [Int.mul_comm 1000000000 P, Int.mul_assoc]
    have e5 : q * (1000000000 * P) = P * (1000000000 * q) := by rw [← Int.mul_assoc, Int.mul_comm (q * 1000000000) P, Int.mul_comm q]
    rw [e2, e4, e5] at h4
    rw [e3]
    omega
theorem plus_core (a b : List Int) (oa : L9.okL a) (ob : L9.okL b) (hbl : b.length ≤ a.length) (hl : a.length ≤ 1000000) : Ev (fun k => integer_plus.j0 k a b) (L9.cl (L9.lv a + L9.lv b).toNat) := by
  have o1 : L9.okL (a ++ [0]) := L9.okL_mk oa (fun x hx => by rw [List.mem_singleton] at hx; subst hx; decide)
  have hl1 : (a ++ [0]).length = a.length + 1 := by simp
  obtain ⟨out, c', h1, h2, h3, h4, h5⟩ := plus_loop b ob (a ++ [0]) [] 0 (.inl rfl) (fun x hx => by cases hx) o1 (by rw [List.nil_append, hl1]; omega)
  rw [List.nil_append] at h2 h4 h5
  rw [hl1] at h2 h4 h5
  have e7 : List.take (a.length + 1) b = b := List.take_of_length_le (by omega)
  rw [e7, List.length_nil, List.take_zero, L9.lv_snoc, L9.pw_succ] at h4
  have h6 := L9.lv_nonneg out h1
  have h8 := L9.lv_lt a oa
  have h9 := L9.lv_lt b ob
  have h10 := L9.pw_mono hbl
  have e0 : L9.lv ([] : List Int) = 0 := rfl
  have hc : c' = 0 := by
    rcases h3 with h | h
    · exact h
    · exfalso
      rw [h, Int.one_mul] at h4
      have := L9.pw_pos a.length
      omega
  rw [hc, Int.zero_mul, Int.zero_mul, e0] at h4
  have hv : L9.lv out = L9.lv a + L9.lv b := by omega
  rw [L9.trim_cl h1, hv] at h5
  have hw : wrap64 ((a.length : Int) + 1) = ((a.length + 1 : Nat) : Int) := by rw [wrap_ok (by omega) (by omega)]; rfl
  refine Ev.step (fun k => ?_) h5
  clear h4 hv h6 h8 h9 h10 h3 h5 h2 h1 e7 e0
  simp only [integer_plus.j0]
  rw [hw, if_pos (Int.natCast_nonneg _), Int.toNat_natCast, if_pos (show a.length + 1 ≤ 35184372088832 by omega), Option.bind_some, if_pos (by rw [List.length_replicate]; omega), Option.bind_some]
  have e2 : (List.replicate (a.length + 1) (0 : Int)).drop a.length = [0] := by rw [List.drop_replicate, Nat.add_sub_cancel_left]; rfl
  rw [e2, hl1]
  rfl
/-- plus: the sum. -/
theorem plus_ev (a b : List Int) (oa : L9.okL a) (ob : L9.okL b) (ha : a.length ≤ 1000000) (hb : b.length ≤ 1000000) : Ev (fun k => integer_plus.f k a b) (L9.cl (L9.lv a + L9.lv b).toNat) := by
  unfold integer_plus.f
  by_cases h : a.length < b.length
  · rw [Int.add_comm]
    exact Ev.congr (fun k => if_pos (by omega)) (plus_core b a ob oa (by omega) hb)
  · exact Ev.congr (fun k => if_neg (by omega)) (plus_core a b oa ob (by omega) ha)

/-! the product -/
/-! by one limb -/
end Go.Proofs.YtdnjlmoggnbknaaDoor.PInt
