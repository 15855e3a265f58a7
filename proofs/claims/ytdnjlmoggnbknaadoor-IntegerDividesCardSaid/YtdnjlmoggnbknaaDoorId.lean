--
import Derived.Test.YtdnjlmoggnbknaaDoorIb
/- What the program's compare, minus, plus and times compute on lists of limbs: they compare, subtract, add and multiply the values. No condition but sizes. -/
namespace Go.Proofs.YtdnjlmoggnbknaaDoor.PInt
open Go.RowKit Go.Proofs.YtdnjlmoggnbknaaDoor.Ext Go.Proofs.YtdnjlmoggnbknaaDoorW.PrintWords
set_option linter.unusedVariables false
set_option linter.unusedSimpArgs false

def cmpI (x y : Int) : Int := if x < y then -1 else if y < x then 1 else 0
theorem compare_loop : ∀ (n : Nat) (a b : List Int), a.length = n → b.length = n → L9.okL a → L9.okL b → ∀ s : List Int, n + s.length ≤ 35184372088832 →
    Ev (fun k => integer_compare.l0 k (a ++ s) (b ++ s) ((n : Int) - 1)) (cmpI (L9.lv a) (L9.lv b)) := by
  intro n
  induction n with
  | zero =>
    intro a b ha hb _ _ s _
    obtain rfl := List.length_eq_zero_iff.1 ha
    obtain rfl := List.length_eq_zero_iff.1 hb
    refine Ev.step (f := fun _ => some 0) (fun k => ?_) (Ev.now _)
    simp only [integer_compare.l0]
    rw [if_neg (by omega)]
  | succ n ih =>
    intro a b ha hb oa ob s hs
    obtain ⟨a, x, rfl⟩ := L9.snoc_of (l := a) (by rintro rfl; simp at ha)
    obtain ⟨b, y, rfl⟩ := L9.snoc_of (l := b) (by rintro rfl; simp at hb)
    rw [List.length_append, List.length_singleton] at ha hb
    have ha' : a.length = n := by omega
    have hb' : b.length = n := by omega
    have h1 := L9.okL_app oa
    have h2 := L9.okL_app ob
    have hc := L9.cmp_snoc (x := x) (y := y) h1.1 h2.1 (by omega)
    have hc' := L9.cmp_snoc (x := y) (y := x) h2.1 h1.1 (by omega)
    have hr1 : rd (a ++ [x] ++ s) (((n + 1 : Nat) : Int) - 1) = x := rd_mid (pre := a) (r := s) (by simp) (by omega)
    have hr2 : rd (b ++ [y] ++ s) (((n + 1 : Nat) : Int) - 1) = y := rd_mid (pre := b) (r := s) (by simp) (by omega)
    have hl1 : ((a ++ [x] ++ s).length : Int) = n + 1 + s.length := by simp; omega
    have hl2 : ((b ++ [y] ++ s).length : Int) = n + 1 + s.length := by simp; omega
    by_cases hxy : x = y
    · subst hxy
      have e : cmpI (L9.lv (a ++ [x])) (L9.lv (b ++ [x])) = cmpI (L9.lv a) (L9.lv b) := by
        unfold cmpI
        have h3 := (hc.2 rfl).1
        have h4 := (hc'.2 rfl).1
        simp only [h3, h4]
      rw [e]
      refine Ev.step (fun k => ?_) (ih a b ha' hb' h1.1 h2.1 (x :: s) (by rw [List.length_cons]; omega))
      simp only [integer_compare.l0]
      rw [if_pos (by omega), if_pos (by omega), if_pos (by omega), if_pos (by omega), hr1, hr2, if_pos rfl, wrap_ok (by omega) (by omega)]
      have e1 : a ++ [x] ++ s = a ++ x :: s := by simp
      have e2 : b ++ [x] ++ s = b ++ x :: s := by simp
      have e3 : ((n + 1 : Nat) : Int) - 1 - 1 = (n : Int) - 1 := by omega
      rw [e1, e2, e3]
    · refine Ev.step (f := fun _ => some (cmpI (L9.lv (a ++ [x])) (L9.lv (b ++ [y])))) (fun k => ?_) (Ev.now _)
      simp only [integer_compare.l0]
      rw [if_pos (by omega), if_pos (by omega), if_pos (by omega), if_pos (by omega), hr1, hr2, if_neg hxy]
      unfold cmpI
      by_cases hlt : x < y
      · rw [if_pos hlt, if_pos (hc.1 hlt)]
      · have h5 := hc'.1 (by omega)
        rw [if_neg hlt, if_neg (by omega), if_pos h5]
theorem compare_ev (a b : List Int) (oa : L9.okL a) (ob : L9.okL b) (ta : L9.tight a) (tb : L9.tight b) (hl : a.length ≤ 1000000) : Ev (fun k => integer_compare.f k a b) (cmpI (L9.lv a) (L9.lv b)) := by
  unfold integer_compare.f
  by_cases h : a.length = b.length
  · have h1 := compare_loop a.length a b rfl h.symm oa ob [] (by rw [List.length_nil]; omega)
    rw [List.append_nil, List.append_nil] at h1
    refine Ev.congr (fun k => ?_) h1
    rw [if_pos (by omega), wrap_ok (by omega) (by omega)]
  · by_cases h2 : a.length < b.length
    · have h3 := L9.lt_of_len oa ob tb h2
      refine Ev.congr (f := fun _ => some (cmpI (L9.lv a) (L9.lv b))) (fun k => ?_) (Ev.now _)
      rw [if_neg (by omega), if_pos (by omega)]
      unfold cmpI
      rw [if_pos h3]
    · have h3 := L9.lt_of_len ob oa ta (by omega)
      refine Ev.congr (f := fun _ => some (cmpI (L9.lv a) (L9.lv b))) (fun k => ?_) (Ev.now _)
      rw [if_neg (by omega), if_neg (by omega)]
      unfold cmpI
      rw [if_neg (by omega), if_pos h3]
theorem set_mid {α : Type} (p : List α) (x v : α) (r : List α) {i : Int} (hi : i = p.length) : (p ++ x :: r).set i.toNat v = (p ++ [v]) ++ r := by
  subst hi
  rw [Int.toNat_natCast, List.set_append_right _ _ (Nat.le_refl _), Nat.sub_self, List.set_cons_zero]
  simp
theorem take_rd (b : List Int) (i : Nat) : L9.lv (b.take (i + 1)) = L9.lv (b.take i) + L9.pw i * rd b (i : Int) := by
  by_cases h : i < b.length
  · rw [L9.lv_take_succ b i h, rd, Int.toNat_natCast, List.getD_eq_getElem?_getD, List.getElem?_eq_getElem h, Option.getD_some]
  · rw [List.take_of_length_le (by omega), List.take_of_length_le (by omega), rd, Int.toNat_natCast, List.getD_eq_getElem?_getD, List.getElem?_eq_none (by omega)]
    simp
theorem rd_ok (b : List Int) (ob : L9.okL b) (i : Int) : 0 ≤ rd b i ∧ rd b i < 1000000000 := by
  rw [rd, List.getD_eq_getElem?_getD]
  by_cases h : i.toNat < b.length
  · rw [List.getElem?_eq_getElem h]
    exact ob _ (List.getElem_mem h)
  · rw [List.getElem?_eq_none (by omega)]
    decide
theorem rd_out (b : List Int) (i : Int) (h : (b.length : Int) ≤ i) : rd b i = 0 := by
  rw [rd, List.getD_eq_getElem?_getD, List.getElem?_eq_none (by omega)]
  rfl
/-- One step of a subtraction: the digit and the borrow. -/
theorem minus_step (k : Nat) (b p r : List Int) (x c : Int) (n : Int) (hn : n = ((p ++ x :: r).length : Int)) (hl : (p ++ x :: r).length ≤ 1000000) (hx : 0 ≤ x ∧ x < 1000000000) (hc : c = 0 ∨ c = 1) (ob : L9.okL b) :
    integer_minus.l0 (k + 1) b (p ++ x :: r) c n (p.length : Int) = integer_minus.l0 k b ((p ++ [if x < c + rd b (p.length : Int) then x + 1000000000 - (c + rd b (p.length : Int)) else x - (c + rd b (p.length : Int))]) ++ r) (if x < c + rd b (p.length : Int) then 1 else 0) n ((p ++ [x]).length : Int) := by
  have hb := rd_ok b ob (p.length : Int)
  have hpl : ((p ++ x :: r).length : Int) = p.length + 1 + r.length := by simp; omega
  have hp1 : ((p ++ [x]).length : Int) = p.length + 1 := by simp
  have hrd : rd (p ++ x :: r) (p.length : Int) = x := rd_mid rfl rfl
  have hw : wrap64 ((p.length : Int) + 1) = ((p ++ [x]).length : Int) := by rw [wrap_ok (by omega) (by omega), hp1]
  have hset : ∀ v, (p ++ x :: r).set (p.length : Int).toNat v = p ++ v :: r := fun v => by rw [set_mid p x v r rfl]; simp
  have hset2 : ∀ u v, (p ++ u :: r).set (p.length : Int).toNat v = (p ++ [v]) ++ r := fun u v => set_mid p u v r rfl
  have hrd2 : ∀ u, rd (p ++ u :: r) (p.length : Int) = u := fun u => rd_mid rfl rfl
  simp only [integer_minus.l0]
  rw [if_pos (by omega), hrd, hset]
  by_cases hbl : (p.length : Int) < (b.length : Int)
  · rw [if_pos hbl, if_pos (by omega), if_pos (by omega), wrap_u (by omega) (by omega)]
    by_cases hlt : x < c + rd b (p.length : Int)
    · rw [if_pos hlt, if_pos hlt, if_pos hlt, wrap_u (by omega) (by omega), Option.bind_some, hrd2, hset2, wrap_u (by omega) (by omega), hw]
    · rw [if_neg hlt, if_neg hlt, if_neg hlt, wrap_u (by omega) (by omega), hw, hset2]
  · rw [if_neg hbl, if_pos (by omega), if_pos (by omega), rd_out b _ (by omega), Int.add_zero]
    by_cases hlt : x < c
    · rw [if_pos hlt, if_pos hlt, if_pos hlt, wrap_u (by omega) (by omega), Option.bind_some, hrd2, hset2, wrap_u (by omega) (by omega), hw]
    · rw [if_neg hlt, if_neg hlt, if_neg hlt, wrap_u (by omega) (by omega), hw, hset2]
theorem minus_loop (b : List Int) (ob : L9.okL b) : ∀ (r p : List Int) (c : Int), (c = 0 ∨ c = 1) → L9.okL p → L9.okL r → (p ++ r).length ≤ 1000000 →
    ∃ out c', L9.okL out ∧ out.length = (p ++ r).length ∧ (c' = 0 ∨ c' = 1) ∧ L9.lv out + L9.lv (b.take (p ++ r).length) + c * L9.pw p.length = L9.lv (p ++ r) + L9.lv (b.take p.length) + c' * L9.pw (p ++ r).length ∧
      Ev (fun k => integer_minus.l0 k b (p ++ r) c ((p ++ r).length : Int) (p.length : Int)) (L9.trim out) := by
  intro r
  induction r with
  | nil =>
    intro p c hc op _ hl
    refine ⟨p, c, op, by simp, hc, by rw [List.append_nil], ?_⟩
    rw [List.append_nil] at hl ⊢
    refine Ev.step (f := fun k => (integer_trimmed.f k p).bind fun t => some t) (fun k => ?_) (Ev.bind (trimmed_ev _ p rfl (by omega)) (Ev.now _))
    simp only [integer_minus.l0]
    rw [if_neg (by omega)]
  | cons x r ih =>
    intro p c hc op or hl
    have hx := (L9.okL_cons or).1
    have hb := rd_ok b ob (p.length : Int)
    have hv : 0 ≤ (if x < c + rd b (p.length : Int) then x + 1000000000 - (c + rd b (p.length : Int)) else x - (c + rd b (p.length : Int))) ∧ (if x < c + rd b (p.length : Int) then x + 1000000000 - (c + rd b (p.length : Int)) else x - (c + rd b (p.length : Int))) < 1000000000 := by
      split <;> omega
    have hlen : ∀ v : Int, ((p ++ [v]) ++ r).length = (p ++ x :: r).length := fun v => by simp
    obtain ⟨out, c', h1, h2, h3, h4, h5⟩ := ih (p ++ [if x < c + rd b (p.length : Int) then x + 1000000000 - (c + rd b (p.length : Int)) else x - (c + rd b (p.length : Int))]) (if x < c + rd b (p.length : Int) then 1 else 0) (by split <;> simp) (L9.okL_mk op (fun y hy => by rw [List.mem_singleton] at hy; subst hy; exact hv)) (L9.okL_cons or).2 (by rw [hlen]; exact hl)
    rw [hlen] at h2 h4 h5
    refine ⟨out, c', h1, h2, h3, ?_, Ev.step (fun k => minus_step k b p r x c _ rfl hl hx hc ob) (by simpa using h5)⟩
    have e1 : L9.lv (p ++ x :: r) = L9.lv p + L9.pw p.length * (x + 1000000000 * L9.lv r) := by rw [L9.lv_app, L9.lv]
    have hp1 : ∀ v : Int, (p ++ [v]).length = p.length + 1 := fun v => by simp
    rw [hp1, take_rd, L9.lv_app, L9.lv_snoc, hp1, L9.pw_succ] at h4
    rw [e1]
    revert h4
    generalize L9.pw p.length = P
    generalize L9.lv r = R
    generalize L9.lv p = U
    generalize L9.lv (b.take p.length) = V
    generalize rd b (p.length : Int) = y
    generalize L9.lv out = O
    generalize L9.lv (List.take (p ++ x :: r).length b) = W
    generalize c' * L9.pw (p ++ x :: r).length = Z
    intro h4
    split at h4
    · have e2 : P * (x + 1000000000 - (c + y)) = P * x + P * 1000000000 - (c * P + P * y) := by rw [Int.mul_sub, Int.mul_add, Int.mul_add, Int.mul_comm P c]
      have e3 : P * (x + 1000000000 * R) = P * x + P * (1000000000 * R) := Int.mul_add _ _ _
      have e4 : 1000000000 * P * R = P * (1000000000 * R) := by rw [Int.mul_comm 1000000000 P, Int.mul_assoc]
      rw [e2, e4] at h4
      rw [e3]
      omega
    · have e2 : P * (x - (c + y)) = P * x - (c * P + P * y) := by rw [Int.mul_sub, Int.mul_add, Int.mul_comm P c]
      have e3 : P * (x + 1000000000 * R) = P * x + P * (1000000000 * R) := Int.mul_add _ _ _
      have e4 : 1000000000 * P * R = P * (1000000000 * R) := by rw [Int.mul_comm 1000000000 P, Int.mul_assoc]
      rw [e2, e4] at h4
      rw [e3]
      omega
/-- minus: the difference of two lists of limbs, the second one no longer and not greater. -/
theorem minus_ev (a b : List Int) (oa : L9.okL a) (ob : L9.okL b) (hle : L9.lv b ≤ L9.lv a) (hbl : b.length ≤ a.length) (hl : a.length ≤ 1000000) : Ev (fun k => integer_minus.f k a b) (L9.cl (L9.lv a - L9.lv b).toNat) := by
  obtain ⟨out, c', h1, h2, h3, h4, h5⟩ := minus_loop b ob a [] 0 (.inl rfl) (fun x hx => by cases hx) oa hl
  rw [List.nil_append, List.take_of_length_le hbl, List.length_nil, List.take_zero] at h4
  rw [List.nil_append] at h5 h2
  have h6 := L9.lv_lt out h1
  have h7 := L9.lv_nonneg out h1
  have h8 := L9.lv_lt a oa
  have h9 := L9.lv_nonneg b ob
  have e0 : L9.lv ([] : List Int) = 0 := rfl
  rw [h2] at h6
  have hc : c' = 0 := by
    rcases h3 with h | h
    · exact h
    · exfalso
      rw [h, Int.one_mul] at h4
      omega
  rw [hc, Int.zero_mul, Int.zero_mul, e0] at h4
  have hv : L9.lv out = L9.lv a - L9.lv b := by omega
  rw [L9.trim_cl h1, hv] at h5
  unfold integer_minus.f
  have e1 : ((a.length : Int)).toNat = a.length := Int.toNat_natCast _
  refine Ev.congr (fun k => ?_) h5
  rw [if_pos (by omega), e1, if_pos (by omega), Option.bind_some, if_pos (by rw [List.length_replicate]; omega), Option.bind_some]
  have e2 : (List.replicate a.length (0 : Int)).drop a.length = [] := List.drop_of_length_le (by rw [List.length_replicate]; omega)
  rw [e2, List.append_nil]
  rfl
end Go.Proofs.YtdnjlmoggnbknaaDoor.PInt

/- What the program's plus, times and small compute on lists of limbs: sum, product, quotient and remainder by one limb. No condition but sizes. -/
namespace Go.Proofs.YtdnjlmoggnbknaaDoor.PInt
open Go.RowKit Go.Proofs.YtdnjlmoggnbknaaDoor.Ext Go.Proofs.YtdnjlmoggnbknaaDoorW.PrintWords
set_option linter.unusedVariables false
set_option linter.unusedSimpArgs false

theorem tmod_pos {x d : Int} (hx : 0 ≤ x) : Int.tmod x d = x % d := Int.tmod_eq_emod_of_nonneg hx
theorem tdiv_pos {x d : Int} (hx : 0 ≤ x) : Int.tdiv x d = x / d := Int.tdiv_eq_ediv_of_nonneg hx
theorem plus_step (k : Nat) (b p r : List Int) (x c : Int) (n : Int) (hn : n = ((p ++ x :: r).length : Int)) (hl : (p ++ x :: r).length ≤ 1000001) (hx : 0 ≤ x ∧ x < 1000000000) (hc : c = 0 ∨ c = 1) (ob : L9.okL b) :
    integer_plus.l0 (k + 1) b (p ++ x :: r) c n (p.length : Int) = integer_plus.l0 k b ((p ++ [(x + c + rd b (p.length : Int)) % 1000000000]) ++ r) ((x + c + rd b (p.length : Int)) / 1000000000) n ((p ++ [x]).length : Int) := by
  have hb := rd_ok b ob (p.length : Int)
  have hpl : ((p ++ x :: r).length : Int) = p.length + 1 + r.length := by simp; omega
  have hp1 : ((p ++ [x]).length : Int) = p.length + 1 := by simp
  have hrd : rd (p ++ x :: r) (p.length : Int) = x := rd_mid rfl rfl
  have hw : wrap64 ((p.length : Int) + 1) = ((p ++ [x]).length : Int) := by rw [wrap_ok (by omega) (by omega), hp1]
  have hset2 : ∀ v, (p ++ x :: r).set (p.length : Int).toNat v = (p ++ [v]) ++ r := fun v => set_mid p x v r rfl
  simp only [integer_plus.l0]
  rw [if_pos (by omega), if_pos (by omega), if_pos (by omega), hrd]
  by_cases hbl : (p.length : Int) < (b.length : Int)
  · rw [if_pos hbl, wrap_u (i := x + c) (by omega) (by omega), wrap_u (i := x + c + rd b (p.length : Int)) (by omega) (by omega), tmod_pos (by omega), tdiv_pos (by omega), wrap_u (by omega) (by omega), hset2, hw]
  · rw [if_neg hbl, rd_out b _ (by omega), Int.add_zero, wrap_u (i := x + c) (by omega) (by omega), tmod_pos (by omega), tdiv_pos (by omega), wrap_u (by omega) (by omega), hset2, hw]
theorem plus_loop (b : List Int) (ob : L9.okL b) : ∀ (r p : List Int) (c : Int), (c = 0 ∨ c = 1) → L9.okL p → L9.okL r → (p ++ r).length ≤ 1000001 →
    ∃ out c', L9.okL out ∧ out.length = (p ++ r).length ∧ (c' = 0 ∨ c' = 1) ∧ L9.lv out + c' * L9.pw (p ++ r).length + L9.lv (b.take p.length) = L9.lv (p ++ r) + L9.lv (b.take (p ++ r).length) + c * L9.pw p.length ∧
      Ev (fun k => integer_plus.l0 k b (p ++ r) c ((p ++ r).length : Int) (p.length : Int)) (L9.trim out) := by
  intro r
  induction r with
  | nil =>
    intro p c hc op _ hl
    refine ⟨p, c, op, by simp, hc, by rw [List.append_nil]; omega, ?_⟩
    rw [List.append_nil] at hl ⊢
    refine Ev.step (f := fun k => (integer_trimmed.f k p).bind fun t => some t) (fun k => ?_) (Ev.bind (trimmed_ev _ p rfl (by omega)) (Ev.now _))
    simp only [integer_plus.l0]
    rw [if_neg (by omega)]
  | cons x r ih =>
    intro p c hc op or hl
    have hx := (L9.okL_cons or).1
    have hb := rd_ok b ob (p.length : Int)
    have hlen : ∀ v : Int, ((p ++ [v]) ++ r).length = (p ++ x :: r).length := fun v => by simp
    have hp1 : ∀ v : Int, (p ++ [v]).length = p.length + 1 := fun v => by simp
    obtain ⟨out, c', h1, h2, h3, h4, h5⟩ := ih (p ++ [(x + c + rd b (p.length : Int)) % 1000000000]) ((x + c + rd b (p.length : Int)) / 1000000000) (by omega) (L9.okL_mk op (fun y hy => by rw [List.mem_singleton] at hy; subst hy; omega)) (L9.okL_cons or).2 (by rw [hlen]; exact hl)
    rw [hlen] at h2 h4 h5
    refine ⟨out, c', h1, h2, h3, ?_, Ev.step (fun k => plus_step k b p r x c _ rfl hl hx hc ob) (by rw [hp1] at h5 ⊢; exact h5)⟩
    have e1 : L9.lv (p ++ x :: r) = L9.lv p + L9.pw p.length * (x + 1000000000 * L9.lv r) := by rw [L9.lv_app, L9.lv]
    rw [hp1, take_rd, L9.lv_app, L9.lv_snoc, hp1, L9.pw_succ] at h4
    rw [e1]
    generalize hy : rd b (p.length : Int) = y at h4 hb ⊢
    have hs : x + c + y = (x + c + y) % 1000000000 + 1000000000 * ((x + c + y) / 1000000000) := by omega
    revert h4 hs
    generalize (x + c + y) % 1000000000 = m
    generalize (x + c + y) / 1000000000 = q
    generalize L9.pw p.length = P
    generalize L9.lv r = R
    generalize L9.lv p = U
    generalize L9.lv (b.take p.length) = V
    generalize L9.lv out = O
    generalize L9.lv (List.take (p ++ x :: r).length b) = W
    generalize c' * L9.pw (p ++ x :: r).length = Z
    intro h4 hs
    have e2 : P * m = P * x + c * P + P * y - P * (1000000000 * q) := by
      have : m = x + c + y - 1000000000 * q := by omega
      rw [this, Int.mul_sub, Int.mul_add, Int.mul_add, Int.mul_comm P c]
    have e3 : P * (x + 1000000000 * R) = P * x + P * (1000000000 * R) := Int.mul_add _ _ _
    have e4 : 1000000000 * P * R = P * (1000000000 * R) := by rw [Int.mul_comm 1000000000 P, Int.mul_assoc]
    have e5 : q * (1000000000 * P) = P * (1000000000 * q) := by rw [← Int.mul_assoc, Int.mul_comm (q * 1000000000) P, Int.mul_comm q]
    rw [e2, e4, e5] at h4
    rw [e3]
    omega
theorem plus_core (a b : List Int) (oa : L9.okL a) (ob : L9.okL b) (hbl : b.length ≤ a.length) (hl : a.length ≤ 1000000) : Ev (fun k => integer_plus.j0 k a b) (L9.cl (L9.lv a + L9.lv b).toNat) := by
  have o1 : L9.okL (a ++ [0]) := L9.okL_mk oa (fun x hx => by rw [List.mem_singleton] at hx; subst hx; decide)
  have hl1 : (a ++ [0]).length = a.length + 1 := by simp
  obtain ⟨out, c', h1, h2, h3, h4, h5⟩ := plus_loop b ob (a ++ [0]) [] 0 (.inl rfl) (fun x hx => by cases hx) o1 (by rw [List.nil_append, hl1]; omega)
  rw [List.nil_append] at h2 h4 h5
  rw [hl1] at h2 h4 h5
  have e7 : List.take (a.length + 1) b = b := List.take_of_length_le (by omega)
  rw [e7, List.length_nil, List.take_zero, L9.lv_snoc, L9.pw_succ] at h4
  have h6 := L9.lv_nonneg out h1
  have h8 := L9.lv_lt a oa
  have h9 := L9.lv_lt b ob
  have h10 := L9.pw_mono hbl
  have e0 : L9.lv ([] : List Int) = 0 := rfl
  have hc : c' = 0 := by
    rcases h3 with h | h
    · exact h
    · exfalso
      rw [h, Int.one_mul] at h4
      have := L9.pw_pos a.length
      omega
  rw [hc, Int.zero_mul, Int.zero_mul, e0] at h4
  have hv : L9.lv out = L9.lv a + L9.lv b := by omega
  rw [L9.trim_cl h1, hv] at h5
  have hw : wrap64 ((a.length : Int) + 1) = ((a.length + 1 : Nat) : Int) := by rw [wrap_ok (by omega) (by omega)]; rfl
  refine Ev.step (fun k => ?_) h5
  clear h4 hv h6 h8 h9 h10 h3 h5 h2 h1 e7 e0
  simp only [integer_plus.j0]
  rw [hw, if_pos (Int.natCast_nonneg _), Int.toNat_natCast, if_pos (show a.length + 1 ≤ 35184372088832 by omega), Option.bind_some, if_pos (by rw [List.length_replicate]; omega), Option.bind_some]
  have e2 : (List.replicate (a.length + 1) (0 : Int)).drop a.length = [0] := by rw [List.drop_replicate, Nat.add_sub_cancel_left]; rfl
  rw [e2, hl1]
  rfl
/-- plus: the sum. -/
theorem plus_ev (a b : List Int) (oa : L9.okL a) (ob : L9.okL b) (ha : a.length ≤ 1000000) (hb : b.length ≤ 1000000) : Ev (fun k => integer_plus.f k a b) (L9.cl (L9.lv a + L9.lv b).toNat) := by
  unfold integer_plus.f
  by_cases h : a.length < b.length
  · rw [Int.add_comm]
    exact Ev.congr (fun k => if_pos (by omega)) (plus_core b a ob oa (by omega) hb)
  · exact Ev.congr (fun k => if_neg (by omega)) (plus_core a b oa ob (by omega) ha)

/-! the product -/
theorem mul_bound {x y c o : Int} (hx : 0 ≤ x ∧ x < 1000000000) (hy : 0 ≤ y ∧ y < 1000000000) (hc : 0 ≤ c ∧ c < 1000000000) (ho : 0 ≤ o ∧ o < 1000000000) : 0 ≤ x * y ∧ x * y ≤ 999999999 * 999999999 ∧ 0 ≤ o + x * y + c ∧ o + x * y + c < 1000000000 * 1000000000 := by
  have h1 : 0 ≤ x * y := Int.mul_nonneg hx.1 hy.1
  have h2 : x * y ≤ 999999999 * 999999999 := Int.mul_le_mul (by omega) (by omega) hy.1 (by omega)
  omega
theorem times_inner (a b : List Int) (i : Nat) (x : Int) (hxi : rd a (i : Int) = x) (hi : i < a.length) (ha : a.length ≤ 1000000) (hbn : b.length ≤ 1000000) (hx : 0 ≤ x ∧ x < 1000000000) (p : List Int) (hp : p.length = i) (zs : List Int) :
    ∀ (br bd qd qr : List Int) (c : Int), b = bd ++ br → bd.length = qd.length → br.length = qr.length → L9.okL br → L9.okL qd → L9.okL qr → 0 ≤ c ∧ c < 1000000000 →
      ∃ q' c', L9.okL q' ∧ (0 ≤ c' ∧ c' < 1000000000) ∧ q'.length = b.length ∧ L9.lv q' + L9.pw b.length * c' = L9.lv qd + L9.pw qd.length * (L9.lv qr + x * L9.lv br + c) ∧
        ∀ R : List Int, (Ev (fun k => integer_times.l0 k a b (p ++ q' ++ c' :: zs) (a.length : Int) ((i + 1 : Nat) : Int)) R → Ev (fun k => integer_times.l1 k a b (p ++ (qd ++ qr) ++ 0 :: zs) (i : Int) c (a.length : Int) (i : Int) (b.length : Int) (qd.length : Int)) R) := by
  intro br
  induction br with
  | nil =>
    intro bd qd qr c hb h1 h2 _ oq _ hc
    have : qr = [] := List.eq_nil_of_length_eq_zero (by rw [← h2]; rfl)
    subst this
    have hbl : b.length = qd.length := by rw [hb, List.append_nil, h1]
    refine ⟨qd, c, oq, hc, hbl.symm, ?_, fun R h => ?_⟩
    · rw [hbl]; simp [L9.lv]
    · rw [List.append_nil]
      refine Ev.step (fun k => ?_) h
      simp only [integer_times.l1]
      have hrd : rd (p ++ qd ++ 0 :: zs) ((i : Int) + b.length) = 0 := rd_mid rfl (by rw [List.length_append, hp, hbl]; omega)
      have hset : (p ++ qd ++ 0 :: zs).set ((i : Int) + b.length).toNat c = p ++ qd ++ c :: zs := by
        rw [set_mid (p ++ qd) 0 c zs (by rw [List.length_append, hp, hbl]; omega)]
        simp
      have hlen : ((p ++ qd ++ 0 :: zs).length : Int) = i + b.length + 1 + zs.length := by rw [List.length_append, List.length_append, List.length_cons, hp, ← hbl]; omega
      rw [if_neg (by omega), wrap_ok (i := (i : Int) + b.length) (by omega) (by omega), if_pos (by omega), if_pos (by omega), hrd, Int.zero_add, wrap_u (by omega) (by omega), hset, wrap_ok (by omega) (by omega)]
      rfl
  | cons y br ih =>
    intro bd qd qr c hb h1 h2 ob oq oqr hc
    cases qr with
    | nil => simp at h2
    | cons o qr =>
      have hy := (L9.okL_cons ob).1
      have ho := (L9.okL_cons oqr).1
      have hm := mul_bound hx hy hc ho
      have hbl : b.length = qd.length + 1 + br.length := by rw [hb, List.length_append, List.length_cons, h1]; omega
      obtain ⟨q', c', g1, g2, g3, g4, g5⟩ := ih (bd ++ [y]) (qd ++ [(o + x * y + c) % 1000000000]) qr ((o + x * y + c) / 1000000000) (by rw [hb]; simp) (by simp [h1]) (by simpa using h2) (L9.okL_cons ob).2 (L9.okL_mk oq (fun z hz => by rw [List.mem_singleton] at hz; subst hz; omega)) (L9.okL_cons oqr).2 (by omega)
      refine ⟨q', c', g1, g2, g3, ?_, fun R h => ?_⟩
      · have hl1 : ∀ v : Int, (qd ++ [v]).length = qd.length + 1 := fun v => by simp
        rw [g4, hl1, L9.lv_snoc, L9.pw_succ, L9.lv, L9.lv]
        generalize L9.pw qd.length = P
        generalize L9.lv qd = U
        generalize L9.lv qr = V
        generalize L9.lv br = W
        have hs : o + x * y + c = (o + x * y + c) % 1000000000 + 1000000000 * ((o + x * y + c) / 1000000000) := by omega
        revert hs
        generalize (o + x * y + c) % 1000000000 = m
        generalize (o + x * y + c) / 1000000000 = q
        intro hs
        have e1 : P * m + 1000000000 * P * (V + x * W + q) = P * (m + 1000000000 * (V + x * W + q)) := by rw [Int.mul_add P m, Int.mul_comm 1000000000 P, Int.mul_assoc]
        have e2 : x * (y + 1000000000 * W) = x * y + 1000000000 * (x * W) := by rw [Int.mul_add, ← Int.mul_assoc, Int.mul_comm x 1000000000, Int.mul_assoc]
        have e3 : m + 1000000000 * (V + x * W + q) = o + 1000000000 * V + (x * y + 1000000000 * (x * W)) + c := by omega
        rw [Int.add_assoc, e1, e2, e3]
      · refine Ev.step (fun k => ?_) (g5 R h)
        simp only [integer_times.l1]
        have hq : ((i : Int) + (qd.length : Int)) = ((p ++ qd).length : Int) := by rw [List.length_append, hp]; omega
        have hL : p ++ (qd ++ o :: qr) ++ 0 :: zs = (p ++ qd) ++ o :: (qr ++ 0 :: zs) := by simp
        have hlen : ((p ++ (qd ++ o :: qr) ++ 0 :: zs).length : Int) = i + qd.length + 1 + qr.length + 1 + zs.length := by rw [hL, List.length_append, List.length_append, List.length_cons, List.length_append, List.length_cons, hp]; omega
        have hrd : rd (p ++ (qd ++ o :: qr) ++ 0 :: zs) ((p ++ qd).length : Int) = o := rd_mid hL rfl
        have hrb : rd b (qd.length : Int) = y := rd_mid hb (by omega)
        have hset : ∀ v, (p ++ (qd ++ o :: qr) ++ 0 :: zs).set ((p ++ qd).length : Int).toNat v = p ++ ((qd ++ [v]) ++ qr) ++ 0 :: zs := fun v => by
          rw [hL, set_mid (p ++ qd) o v _ rfl]
          simp
        have hpq : ((p ++ qd).length : Int) = i + qd.length := by rw [List.length_append, hp]; omega
        have hl1 : ((qd ++ [(o + x * y + c) % 1000000000]).length : Int) = qd.length + 1 := by simp
        rw [if_pos (by omega), wrap_ok (i := (i : Int) + (qd.length : Int)) (by omega) (by omega), if_pos (by omega), if_pos (by omega), if_pos (by omega), if_pos (by omega), if_pos (by omega), if_pos (by omega)]
        rw [hq, hrd, hxi, hrb, wrap_u (i := x * y) (by omega) (by omega), wrap_u (i := o + x * y) (by omega) (by omega), wrap_u (i := o + x * y + c) (by omega) (by omega), tmod_pos (by omega), tdiv_pos (by omega), wrap_u (by omega) (by omega), hset, wrap_ok (i := (qd.length : Int) + 1) (by omega) (by omega), hl1]
theorem times_outer (a b : List Int) (oa : L9.okL a) (ob : L9.okL b) (ha : a.length ≤ 1000000) (hbn : b.length ≤ 1000000) :
    ∀ (ar ad p q : List Int), a = ad ++ ar → p.length = ad.length → q.length = b.length → L9.okL p → L9.okL q →
      Ev (fun k => integer_times.l0 k a b (p ++ q ++ List.replicate ar.length 0) (a.length : Int) (ad.length : Int)) (L9.cl (L9.lv p + L9.pw p.length * (L9.lv q + L9.lv ar * L9.lv b)).toNat) := by
  intro ar
  induction ar with
  | nil =>
    intro ad p q hab hp hq op oq
    have ho := L9.okL_mk op oq
    have hal : a.length = ad.length := by rw [hab, List.append_nil]
    have hpl : (p ++ q).length ≤ 35184372088832 := by rw [List.length_append]; omega
    have e : L9.lv p + L9.pw p.length * (L9.lv q + L9.lv [] * L9.lv b) = L9.lv (p ++ q) := by rw [L9.lv_app]; simp [L9.lv]
    rw [e]
    refine Ev.step (f := fun k => (integer_trimmed.f k (p ++ q)).bind fun t => some t) (fun k => ?_) (Ev.bind (trimmed_cl _ hpl ho) (Ev.now _))
    simp only [integer_times.l0]
    rw [if_neg (by omega), List.length_nil, List.replicate_zero, List.append_nil]
  | cons x ar ih =>
    intro ad p q hab hp hq op oq
    have hoa : L9.okL (x :: ar) := (L9.okL_app (by rw [← hab]; exact oa)).2
    have hx := (L9.okL_cons hoa).1
    have hal : a.length = ad.length + 1 + ar.length := by rw [hab, List.length_append, List.length_cons]; omega
    have hrda : rd a (ad.length : Int) = x := rd_mid hab rfl
    obtain ⟨q', c', g1, g2, g3, g4, g5⟩ := times_inner a b ad.length x hrda (by omega) ha hbn hx p hp (List.replicate ar.length 0) b [] [] q 0 rfl rfl hq.symm ob (fun x hx => by cases hx) oq (by decide)
    have o2 : L9.okL (q' ++ [c']) := L9.okL_mk g1 (fun z hz => by rw [List.mem_singleton] at hz; subst hz; exact g2)
    obtain ⟨h, t, ht⟩ : ∃ h t, q' ++ [c'] = h :: t := by
      cases hq' : q' ++ [c'] with
      | nil => simp at hq'
      | cons h t => exact ⟨h, t, rfl⟩
    have htl : t.length = b.length := by
      have := congrArg List.length ht
      rw [List.length_append, List.length_singleton, List.length_cons, g3] at this
      omega
    rw [ht] at o2
    have ho2 := L9.okL_cons o2
    have ih' := ih (ad ++ [x]) (p ++ [h]) t (by rw [hab]; simp) (by simp [hp]) htl (L9.okL_mk op (fun z hz => by rw [List.mem_singleton] at hz; subst hz; exact ho2.1)) ho2.2
    have e1 : p ++ [h] ++ t ++ List.replicate ar.length 0 = p ++ q' ++ c' :: List.replicate ar.length 0 := by
      have : p ++ [h] ++ t = p ++ (q' ++ [c']) := by rw [ht]; simp
      rw [this]
      simp
    have e2 : L9.lv (p ++ [h]) + L9.pw (p ++ [h]).length * (L9.lv t + L9.lv ar * L9.lv b) = L9.lv p + L9.pw p.length * (L9.lv q + L9.lv (x :: ar) * L9.lv b) := by
      have hv := congrArg L9.lv ht
      have e0 : L9.lv ([] : List Int) = 0 := rfl
      have e9 : L9.lv (h :: t) = h + 1000000000 * L9.lv t := rfl
      rw [L9.lv_snoc, g3, g4, e0, List.length_nil, L9.pw_zero, e9] at hv
      rw [L9.lv_snoc, List.length_append, List.length_singleton, L9.pw_succ, show L9.lv (x :: ar) = x + 1000000000 * L9.lv ar from rfl]
      revert hv
      generalize L9.lv p = U
      generalize L9.pw p.length = P
      generalize L9.lv t = V
      generalize L9.lv ar = A
      generalize L9.lv b = B
      generalize L9.lv q = Q
      intro hv
      have e3 : h + 1000000000 * V = Q + x * B := by omega
      have e4 : (x + 1000000000 * A) * B = x * B + 1000000000 * (A * B) := by rw [Int.add_mul, Int.mul_assoc]
      have e5 : P * h + 1000000000 * P * (V + A * B) = P * (h + 1000000000 * (V + A * B)) := by rw [Int.mul_add P h, Int.mul_comm 1000000000 P, Int.mul_assoc]
      have e6 : h + 1000000000 * (V + A * B) = Q + (x * B + 1000000000 * (A * B)) := by omega
      rw [Int.add_assoc, e5, e6, e4]
    rw [e1, e2] at ih'
    have hsz : (ad ++ [x]).length = ad.length + 1 := by simp
    rw [hsz] at ih'
    have g6 := g5 _ ih'
    rw [List.length_nil, List.nil_append] at g6
    refine Ev.step (fun k => ?_) g6
    simp only [integer_times.l0]
    rw [if_pos (by omega), List.length_cons, List.replicate_succ]
    rfl
/-- times: the product. -/
theorem times_ev (a b : List Int) (oa : L9.okL a) (ob : L9.okL b) (ha : a.length ≤ 1000000) (hb : b.length ≤ 1000000) : Ev (fun k => integer_times.f k a b) (L9.cl (L9.lv a * L9.lv b).toNat) := by
  have h := times_outer a b oa ob ha hb a [] [] (List.replicate b.length 0) rfl rfl (by rw [List.length_replicate]) (fun x hx => by cases hx) (fun x hx => by rw [List.eq_of_mem_replicate hx]; decide)
  have e0 : L9.lv ([] : List Int) = 0 := rfl
  rw [e0, List.length_nil, L9.pw_zero, L9.lv_zeros, Int.zero_add, Int.one_mul, Int.zero_add, List.nil_append, List.replicate_append_replicate] at h
  unfold integer_times.f
  refine Ev.congr (fun k => ?_) h
  have hw : wrap64 ((a.length : Int) + (b.length : Int)) = ((b.length + a.length : Nat) : Int) := by rw [wrap_ok (by omega) (by omega)]; omega
  rw [hw, if_pos (by omega), Int.toNat_natCast, if_pos (by omega)]
  rfl

/-! by one limb -/
theorem small_loop (d : Int) (hd : 1 ≤ d ∧ d < 1000000000) : ∀ (n : Nat) (lo : List Int), lo.length = n → L9.okL lo → ∀ (hi qs : List Int) (c : Int), qs.length = hi.length → L9.okL qs → 0 ≤ c ∧ c < d → L9.lv hi = L9.lv qs * d + c → n + hi.length ≤ 1000000 →
    ∃ q r, (0 ≤ r ∧ r < d) ∧ 0 ≤ q ∧ L9.lv (lo ++ hi) = q * d + r ∧ Ev (fun k => integer_small.l0 k (lo ++ hi) d (List.replicate n 0 ++ qs) c ((n : Int) - 1)) (L9.cl q.toNat, r) := by
  intro n
  induction n with
  | zero =>
    intro lo hlo _ hi qs c hq oq hc hv hn
    obtain rfl := List.length_eq_zero_iff.1 hlo
    refine ⟨L9.lv qs, c, hc, L9.lv_nonneg qs oq, by rw [List.nil_append]; exact hv, ?_⟩
    refine Ev.step (f := fun k => (integer_trimmed.f k qs).bind fun t => some (t, c)) (fun k => ?_) (Ev.bind (trimmed_cl qs (by omega) oq) (Ev.now _))
    simp only [integer_small.l0]
    rw [if_neg (by omega), List.replicate_zero, List.nil_append]
  | succ n ih =>
    intro lo hlo olo hi qs c hq oq hc hv hn
    obtain ⟨lo, x, rfl⟩ := L9.snoc_of (l := lo) (by rintro rfl; simp at hlo)
    rw [List.length_append, List.length_singleton] at hlo
    have o1 := L9.okL_app olo
    have hx := o1.2 x (by simp)
    have hX0 : 0 ≤ c * 1000000000 + x := by omega
    have hX1 : c * 1000000000 + x < 1000000000 * d := by omega
    have hq1 : 0 ≤ (c * 1000000000 + x) / d := Int.ediv_nonneg hX0 (by omega)
    have hq2 : (c * 1000000000 + x) / d < 1000000000 := Int.ediv_lt_of_lt_mul (by omega) hX1
    have hr1 : 0 ≤ (c * 1000000000 + x) % d := Int.emod_nonneg _ (by omega)
    have hr2 : (c * 1000000000 + x) % d < d := Int.emod_lt_of_pos _ (by omega)
    have hdm := Int.mul_ediv_add_emod (c * 1000000000 + x) d
    have hv2 : L9.lv (x :: hi) = L9.lv ((c * 1000000000 + x) / d :: qs) * d + (c * 1000000000 + x) % d := by
      have e1 : L9.lv (x :: hi) = x + 1000000000 * L9.lv hi := rfl
      have e2 : L9.lv ((c * 1000000000 + x) / d :: qs) = (c * 1000000000 + x) / d + 1000000000 * L9.lv qs := rfl
      rw [e1, e2, hv, Int.add_mul, Int.mul_comm ((c * 1000000000 + x) / d) d, Int.mul_assoc]
      generalize L9.lv qs * d = Z
      omega
    obtain ⟨q, r, h1, h2, h3, h4⟩ := ih lo (by omega) o1.1 (x :: hi) ((c * 1000000000 + x) / d :: qs) ((c * 1000000000 + x) % d) (by simp [hq]) (fun y hy => by
      rcases List.mem_cons.1 hy with rfl | hy
      · exact ⟨hq1, hq2⟩
      · exact oq y hy) ⟨hr1, hr2⟩ hv2 (by rw [List.length_cons]; omega)
    have hL : lo ++ [x] ++ hi = lo ++ x :: hi := by simp
    rw [hL]
    refine ⟨q, r, h1, h2, h3, Ev.step (fun k => ?_) h4⟩
    simp only [integer_small.l0]
    have hlen : ((lo ++ x :: hi).length : Int) = n + 1 + hi.length := by rw [List.length_append, List.length_cons]; omega
    have hlen2 : ((List.replicate (n + 1) (0 : Int) ++ qs).length : Int) = n + 1 + qs.length := by rw [List.length_append, List.length_replicate]; omega
    have hi1 : ((n + 1 : Nat) : Int) - 1 = n := by omega
    have hrd : rd (lo ++ x :: hi) (n : Int) = x := rd_mid rfl (by omega)
    have hset : ∀ v : Int, (List.replicate (n + 1) (0 : Int) ++ qs).set (n : Int).toNat v = List.replicate n 0 ++ v :: qs := fun v => by
      have e3 : List.replicate (n + 1) (0 : Int) ++ qs = List.replicate n 0 ++ 0 :: qs := by rw [List.replicate_succ', List.append_assoc]; rfl
      rw [e3, set_mid (List.replicate n 0) 0 v qs (by rw [List.length_replicate])]
      simp
    rw [hi1, if_pos (by omega), if_pos (by omega), if_pos (by omega), if_neg (by omega), if_pos (by omega), hrd, wrap_u (i := c * 1000000000) (by omega) (by omega), wrap_u (i := c * 1000000000 + x) (by omega) (by omega), tdiv_pos hX0, tmod_pos hX0, wrap_u (by omega) (by omega), hset, wrap_ok (by omega) (by omega)]
/-- small: the quotient and the remainder by one limb. -/
theorem small_ev (a : List Int) (oa : L9.okL a) (d : Int) (hd : 1 ≤ d ∧ d < 1000000000) (ha : a.length ≤ 1000000) : Ev (fun k => integer_small.f k a d) (L9.cl (L9.lv a / d).toNat, L9.lv a % d) := by
  have e0 : L9.lv ([] : List Int) = 0 := rfl
  obtain ⟨q, r, h1, h2, h3, h4⟩ := small_loop d hd a.length a rfl oa [] [] 0 rfl (fun x hx => by cases hx) ⟨by omega, by omega⟩ (by rw [e0]; omega) (by rw [List.length_nil]; omega)
  rw [List.append_nil, List.append_nil] at h4
  rw [List.append_nil] at h3
  have h5 := (Int.ediv_emod_unique (a := L9.lv a) (b := d) (r := r) (q := q) (by omega)).2 ⟨by rw [h3, Int.mul_comm]; omega, h1.1, h1.2⟩
  rw [h5.1, h5.2]
  unfold integer_small.f
  refine Ev.congr (fun k => ?_) h4
  rw [if_pos (by omega), Int.toNat_natCast, if_pos (by omega), wrap_ok (by omega) (by omega)]
end Go.Proofs.YtdnjlmoggnbknaaDoor.PInt
