/- What the program's divide computes: quotient and remainder of two numbers by their limbs. No condition but sizes. -/
import Derived.Test.YtdnjlmoggnbknaaDoorId
namespace Go.Proofs.YtdnjlmoggnbknaaDoor.PInt
open Go.RowKit Go.Proofs.YtdnjlmoggnbknaaDoor.Ext Go.Proofs.YtdnjlmoggnbknaaDoorW.PrintWords
set_option linter.unusedVariables false
set_option linter.unusedSimpArgs false
open L9 (cl cl_lv cl_ok cl_tight cl_len cl_nil lv pw okL)

/-- At most k limbs. -/
def lenle (n k : Nat) : Prop := (cl n).length ≤ k
theorem lenle_iff {n k : Nat} : lenle n k ↔ n < 1000000000 ^ k := cl_len k n
theorem len_mono {a b k j : Nat} (h : lenle b k) (hab : a ≤ b) (hk : k ≤ j) : lenle a j := by
  rw [lenle_iff] at *
  exact Nat.lt_of_le_of_lt hab (Nat.lt_of_lt_of_le h (Nat.pow_le_pow_right (by decide) hk))
theorem len_mul {a b i j : Nat} (ha : lenle a i) (hb : lenle b j) : lenle (a * b) (i + j) := by
  rw [lenle_iff] at *
  rw [Nat.pow_add]
  exact Nat.mul_lt_mul'' ha hb
theorem compare_cl (a b : Nat) (ha : lenle a 1000) : Ev (fun k => integer_compare.f k (cl a) (cl b)) (cmpI a b) := by
  have h := compare_ev (cl a) (cl b) (cl_ok _) (cl_ok _) (cl_tight _) (cl_tight _) (Nat.le_trans ha (by decide))
  rw [cl_lv, cl_lv] at h
  exact h
theorem minus_cl (a b : Nat) (hab : b ≤ a) (ha : lenle a 1000) : Ev (fun k => integer_minus.f k (cl a) (cl b)) (cl (a - b)) := by
  have hl : (cl b).length ≤ (cl a).length := by
    rcases Nat.lt_or_ge (cl a).length (cl b).length with h | h
    · have := L9.lt_of_len (cl_ok a) (cl_ok b) (cl_tight b) h
      rw [cl_lv, cl_lv] at this
      omega
    · exact h
  have h := minus_ev (cl a) (cl b) (cl_ok _) (cl_ok _) (by rw [cl_lv, cl_lv]; omega) hl (Nat.le_trans ha (by decide))
  rw [cl_lv, cl_lv, show ((a : Int) - (b : Int)).toNat = a - b by omega] at h
  exact h
theorem plus_cl (a b : Nat) (ha : lenle a 1000) (hb : lenle b 1000) : Ev (fun k => integer_plus.f k (cl a) (cl b)) (cl (a + b)) := by
  have h := plus_ev (cl a) (cl b) (cl_ok _) (cl_ok _) (Nat.le_trans ha (by decide)) (Nat.le_trans hb (by decide))
  rw [cl_lv, cl_lv, show ((a : Int) + (b : Int)).toNat = a + b by omega] at h
  exact h
theorem times_one (a g : Nat) (ha : lenle a 1000) (hg : g < 1000000000) : Ev (fun k => integer_times.f k (cl a) [(g : Int)]) (cl (a * g)) := by
  have ho : okL [(g : Int)] := fun x hx => by rw [List.mem_singleton] at hx; subst hx; omega
  have h := times_ev (cl a) [(g : Int)] (cl_ok _) ho (Nat.le_trans ha (by decide)) (by rw [List.length_singleton]; decide)
  rw [cl_lv, L9.lv_one, show ((a : Int) * (g : Int)).toNat = a * g by rw [← Int.natCast_mul]; exact Int.toNat_natCast _] at h
  exact h
theorem small_cl (a d : Nat) (ha : lenle a 1000) (hd : 1 ≤ d ∧ d < 1000000000) : Ev (fun k => integer_small.f k (cl a) (d : Int)) (cl (a / d), ((a % d : Nat) : Int)) := by
  have h := small_ev (cl a) (cl_ok _) (d : Int) (by omega) (Nat.le_trans ha (by decide))
  rw [cl_lv, ← Int.natCast_ediv, ← Int.natCast_emod, Int.toNat_natCast] at h
  exact h
theorem trimmed_one (r : Nat) (hr : r < 1000000000) : Ev (fun k => integer_trimmed.f k [(r : Int)]) (cl r) := by
  have ho : okL [(r : Int)] := fun x hx => by rw [List.mem_singleton] at hx; subst hx; omega
  have h := trimmed_cl [(r : Int)] (by rw [List.length_singleton]; decide) ho
  rw [L9.lv_one, Int.toNat_natCast] at h
  exact h
theorem trimmed_cons (x R : Nat) (hx : x < 1000000000) (hR : lenle R 1000) : Ev (fun k => integer_trimmed.f k ([(x : Int)] ++ cl R)) (cl (x + 1000000000 * R)) := by
  have ho : okL ([(x : Int)] ++ cl R) := L9.okL_mk (fun y hy => by rw [List.mem_singleton] at hy; subst hy; omega) (cl_ok _)
  have h := trimmed_cl ([(x : Int)] ++ cl R) (by rw [List.length_append, List.length_singleton]; unfold lenle at hR; omega) ho
  have e : lv ([(x : Int)] ++ cl R) = ((x + 1000000000 * R : Nat) : Int) := by
    show (x : Int) + 1000000000 * lv (cl R) = _
    rw [cl_lv]
    omega
  rw [e, Int.toNat_natCast] at h
  exact h
theorem cmp_pos {x y : Int} : cmpI x y > 0 ↔ y < x := by
  unfold cmpI
  split
  · constructor <;> intro h <;> omega
  · split <;> constructor <;> intro h <;> omega
theorem cmp_neg {x y : Int} : cmpI x y < 0 ↔ x < y := by
  unfold cmpI
  split
  · constructor <;> intro h <;> omega
  · split <;> constructor <;> intro h <;> omega
/-- Lowering the guess to the digit. -/
theorem lower (S N : List Int) (top : Int) (D X : Nat) (hD : 1 ≤ D) (hX : lenle X 900) (hDl : lenle D 900) (q : List Int) (i : Nat) (hi : i < q.length) (hq : q.length ≤ 1000000) (R : List Int × List Int)
    (hR : Ev (fun k => integer_divide.l0 k S N (cl D) top (cl (X % D)) (q.set i ((X / D : Nat) : Int)) ((i : Int) - 1)) R) :
    ∀ (d g : Nat), g = X / D + d → g < 1000000000 → Ev (fun k => integer_divide.l1 k S N (cl D) top (cl X) q (i : Int) (g : Int) (cl (D * g))) R := by
  intro d
  induction d with
  | zero =>
    intro g hg hgb
    rw [Nat.add_zero] at hg
    subst hg
    have hle : D * (X / D) ≤ X := Nat.mul_div_le X D
    have hc := compare_cl (D * (X / D)) X (len_mono hX hle (by decide))
    have hm := minus_cl X (D * (X / D)) hle (len_mono hX (Nat.le_refl _) (by decide))
    have e : X - D * (X / D) = X % D := by have := Nat.div_add_mod X D; omega
    rw [e] at hm
    refine Ev.step (f := fun k => (integer_compare.f k (cl (D * (X / D))) (cl X)).bind fun t => if t > 0 then ((integer_minus.f k (cl (D * (X / D))) (cl D)).bind fun t225 => (integer_divide.l1 k S N (cl D) top (cl X) q (i : Int) (IntKind.u64.wrap (((X / D : Nat) : Int) - 1)) t225)) else (if 0 ≤ (i : Int) then (if (i : Int) < (q.length : Int) then ((integer_minus.f k (cl X) (cl (D * (X / D)))).bind fun t229 => (integer_divide.l0 k S N (cl D) top t229 (q.set ((i : Int)).toNat ((X / D : Nat) : Int)) (wrap64 ((i : Int) - 1)))) else (none)) else (none))) (fun k => by simp only [integer_divide.l1]) ?_
    refine Ev.bind hc ?_
    refine Ev.congr (f := fun k => (integer_minus.f k (cl X) (cl (D * (X / D)))).bind fun t229 => integer_divide.l0 k S N (cl D) top t229 (q.set i ((X / D : Nat) : Int)) ((i : Int) - 1)) (fun k => ?_) (Ev.bind hm hR)
    rw [if_neg (by rw [gt_iff_lt, ← gt_iff_lt, cmp_pos]; omega), if_pos (by omega), if_pos (by omega), Int.toNat_natCast, wrap_ok (by omega) (by omega)]
  | succ d ih =>
    intro g hg hgb
    have hg1 : 1 ≤ g := by rw [hg]; exact Nat.succ_pos _
    have hg2 : g - 1 = X / D + d := by rw [hg]; rfl
    have hgt : X < D * g := by
      have h1 := Nat.lt_mul_div_succ X (show 0 < D by omega)
      have h2 : D * (X / D + 1) ≤ D * g := Nat.mul_le_mul_left D (by rw [hg]; exact Nat.add_le_add_left (Nat.succ_le_succ (Nat.zero_le d)) _)
      exact Nat.lt_of_lt_of_le h1 h2
    clear hg
    have hgl : lenle (D * g) 901 := len_mul hDl (lenle_iff.2 (by rw [Nat.pow_one]; exact hgb))
    have hc := compare_cl (D * g) X (len_mono hgl (Nat.le_refl _) (by decide))
    have h2 : D * g - D = D * (g - 1) := by rw [Nat.mul_sub, Nat.mul_one]
    have hm := minus_cl (D * g) D (Nat.le_mul_of_pos_right D (by omega)) (len_mono hgl (Nat.le_refl _) (by decide))
    rw [h2] at hm
    have ih' := ih (g - 1) hg2 (by omega)
    clear hg2
    refine Ev.step (f := fun k => (integer_compare.f k (cl (D * g)) (cl X)).bind fun t => if t > 0 then ((integer_minus.f k (cl (D * g)) (cl D)).bind fun t225 => (integer_divide.l1 k S N (cl D) top (cl X) q (i : Int) (IntKind.u64.wrap ((g : Int) - 1)) t225)) else (if 0 ≤ (i : Int) then (if (i : Int) < (q.length : Int) then ((integer_minus.f k (cl X) (cl (D * g))).bind fun t229 => (integer_divide.l0 k S N (cl D) top t229 (q.set ((i : Int)).toNat (g : Int)) (wrap64 ((i : Int) - 1)))) else (none)) else (none))) (fun k => by simp only [integer_divide.l1]) ?_
    refine Ev.bind hc ?_
    refine Ev.congr (f := fun k => (integer_minus.f k (cl (D * g)) (cl D)).bind fun t225 => integer_divide.l1 k S N (cl D) top (cl X) q (i : Int) ((g - 1 : Nat) : Int) t225) (fun k => ?_) (Ev.bind hm ih')
    rw [if_pos (cmp_pos.2 (by omega)), wrap_u (by omega) (by omega), show ((g : Int) - 1) = ((g - 1 : Nat) : Int) by omega]
/-- The first guess is no smaller than the digit. -/
theorem guess_ge {P top x D X : Int} (hP : 1 ≤ P) (ht : 1 ≤ top) (h1 : P * top ≤ D) (h2 : X < P * (x + 1)) (hX : 0 ≤ X) (hD : 1 ≤ D) : X / D ≤ x / top := by
  have hq : 0 ≤ X / D := Int.ediv_nonneg hX (by omega)
  have h3 : (X / D) * D ≤ X := Int.ediv_mul_le X (by omega)
  have h4 : (X / D) * (P * top) ≤ (X / D) * D := Int.mul_le_mul_of_nonneg_left h1 hq
  have h5 : P * ((X / D) * top) < P * (x + 1) := by
    have : (X / D) * (P * top) = P * ((X / D) * top) := by rw [← Int.mul_assoc, Int.mul_comm (X / D) P, Int.mul_assoc]
    omega
  have h6 : (X / D) * top < x + 1 := Int.lt_of_mul_lt_mul_left h5 (by omega)
  exact Int.le_ediv_of_mul_le (by omega) (by omega)
theorem head_bound (l : List Int) (ho : okL l) (j : Nat) (hj : j ≤ l.length) : pw j * lv (l.drop j) ≤ lv l ∧ lv l < pw j * (lv (l.drop j) + 1) := by
  have h1 := L9.lv_split l j hj
  have h2 : okL (l.take j) := fun x hx => ho x (List.mem_of_mem_take hx)
  have h3 := L9.lv_nonneg _ h2
  have h4 := L9.lv_lt _ h2
  rw [List.length_take, Nat.min_eq_left hj] at h4
  rw [Int.mul_add, Int.mul_one]
  omega
theorem rd_drop (l : List Int) (j : Nat) (h : j < l.length) : l.drop j = rd l (j : Int) :: l.drop (j + 1) := by
  rw [List.drop_eq_getElem_cons h, rd, Int.toNat_natCast, List.getD_eq_getElem?_getD, List.getElem?_eq_getElem h, Option.getD_some]
/-- One digit of the quotient. -/
theorem div_step (S N : List Int) (D R x : Nat) (hD : 1 ≤ D) (hDl : lenle D 800) (hR : R < D) (q : List Int) (i : Nat) (hi : i < q.length) (hiN : i < N.length) (hrd : rd N (i : Int) = (x : Int)) (hx : x < 1000000000) (hq : q.length ≤ 1000000) (hN : N.length ≤ 1000000) (res : List Int × List Int)
    (hres : Ev (fun k => integer_divide.l0 k S N (cl D) (rd (cl D) (((cl D).length : Int) - 1)) (cl ((x + 1000000000 * R) % D)) (q.set i (((x + 1000000000 * R) / D : Nat) : Int)) ((i : Int) - 1)) res) :
    Ev (fun k => integer_divide.l0 k S N (cl D) (rd (cl D) (((cl D).length : Int) - 1)) (cl R) q (i : Int)) res := by
  obtain ⟨X, hX⟩ : ∃ X, X = x + 1000000000 * R := ⟨_, rfl⟩
  rw [← hX] at hres
  have hXD : X < 1000000000 * D := by omega
  have hXl : lenle X 802 := len_mono (len_mul (a := 1000000000) (i := 2) (lenle_iff.2 (by decide)) hDl) (by omega) (by decide)
  have hQ : X / D < 1000000000 := Nat.div_lt_of_lt_mul (by rw [Nat.mul_comm]; exact hXD)
  have hm : 1 ≤ (cl D).length := by
    have : cl D ≠ [] := fun e => by have := cl_nil.1 e; omega
    exact List.length_pos_iff.2 this
  have hDl' : (cl D).length ≤ 800 := hDl
  have hXl' : (cl X).length ≤ 802 := hXl
  obtain ⟨j, hj⟩ : ∃ j, (cl D).length = j + 1 := ⟨(cl D).length - 1, by omega⟩
  have htop : ((cl D).length : Int) - 1 = (j : Int) := by omega
  -- what follows a guess
  have after : ∀ g : Nat, X / D ≤ g → g < 1000000000 → Ev (fun k => integer_divide.j1 k S N (cl D) (rd (cl D) (((cl D).length : Int) - 1)) (cl X) q (i : Int) (g : Int)) res := by
    intro g hg1 hg2
    have hl := lower S N (rd (cl D) (((cl D).length : Int) - 1)) D X hD (len_mono hXl (Nat.le_refl _) (by decide)) (len_mono hDl (Nat.le_refl _) (by decide)) q i hi hq res hres (g - X / D) g (by omega) hg2
    have h2 : Ev (fun k => integer_divide.j2 k S N (cl D) (rd (cl D) (((cl D).length : Int) - 1)) (cl X) q (i : Int) (g : Int) (cl (D * g))) res := Ev.step (fun k => by simp only [integer_divide.j2]) hl
    refine Ev.step (f := fun k => (integer_times.f k (cl D) [(g : Int)]).bind fun t => if (g : Int) = 0 then integer_divide.j2 k S N (cl D) (rd (cl D) (((cl D).length : Int) - 1)) (cl X) q (i : Int) (g : Int) [] else integer_divide.j2 k S N (cl D) (rd (cl D) (((cl D).length : Int) - 1)) (cl X) q (i : Int) (g : Int) t) (fun k => by simp only [integer_divide.j1]) ?_
    refine Ev.bind (times_one D g (len_mono hDl (Nat.le_refl _) (by decide)) hg2) (Ev.congr (fun k => ?_) h2)
    by_cases h0 : (g : Int) = 0
    · rw [if_pos h0]
      have : g = 0 := by omega
      subst this
      rw [Nat.mul_zero, L9.cl_zero]
    · rw [if_neg h0]
  have htr := trimmed_cons x R hx (len_mono hDl (Nat.le_of_lt hR) (by decide))
  rw [← hX] at htr
  have hRl : (cl R).length ≤ 800 := len_mono hDl (Nat.le_of_lt hR) (Nat.le_refl _)
  -- the guess
  have hgo : ∀ x' : Int, 0 ≤ x' → x' < 1000000000 * 1000000000 → (X : Int) < pw j * (x' + 1) → 1 ≤ rd (cl D) (j : Int) → pw j * rd (cl D) (j : Int) ≤ (D : Int) →
      ∃ g : Nat, mn (IntKind.u64.wrap (Int.tdiv x' (rd (cl D) (j : Int)))) 999999999 = (g : Int) ∧ X / D ≤ g ∧ g < 1000000000 := by
    intro x' h0 h1 h2 h3 h4
    have h5 : 0 ≤ x' / rd (cl D) (j : Int) := Int.ediv_nonneg h0 (by omega)
    have h6 : x' / rd (cl D) (j : Int) ≤ x' := Int.ediv_le_self _ h0
    have h7 := guess_ge (P := pw j) (top := rd (cl D) (j : Int)) (x := x') (D := (D : Int)) (X := (X : Int)) (L9.pw_pos j) h3 h4 h2 (by omega) (by omega)
    rw [← Int.natCast_ediv] at h7
    rw [tdiv_pos h0, wrap_u h5 (by omega)]
    unfold mn
    by_cases h8 : 999999999 < x' / rd (cl D) (j : Int)
    · exact ⟨999999999, by rw [if_pos h8]; rfl, by omega, by decide⟩
    · exact ⟨(x' / rd (cl D) (j : Int)).toNat, by rw [if_neg h8]; omega, by omega, by omega⟩
  have htD : pw j * rd (cl D) (j : Int) ≤ (D : Int) ∧ 1 ≤ rd (cl D) (j : Int) ∧ rd (cl D) (j : Int) < 1000000000 := by
    have h1 := head_bound (cl D) (cl_ok D) j (by omega)
    rw [rd_drop (cl D) j (by omega), List.drop_of_length_le (by omega), L9.lv_one, cl_lv] at h1
    have h2 := rd_ok (cl D) (cl_ok D) (j : Int)
    have h3 : rd (cl D) (j : Int) ≠ 0 := by
      have h4 : cl D = (cl D).take j ++ [rd (cl D) (j : Int)] := by
        have := List.take_append_drop j (cl D)
        rw [rd_drop (cl D) j (by omega), List.drop_of_length_le (by omega)] at this
        exact this.symm
      exact cl_tight D _ _ h4
    exact ⟨h1.1, by omega, h2.2⟩
  refine Ev.step (f := fun k => (integer_trimmed.f k ([(x : Int)] ++ cl R)).bind fun t213 => (if (t213.length : Int) ≥ ((cl D).length : Int) then (if 0 ≤ (wrap64 (((cl D).length : Int) - 1)) then (if (wrap64 (((cl D).length : Int) - 1)) < (t213.length : Int) then (if (t213.length : Int) > ((cl D).length : Int) then (if 0 ≤ ((cl D).length : Int) then (if ((cl D).length : Int) < (t213.length : Int) then (if (rd (cl D) (((cl D).length : Int) - 1)) = 0 then (none) else (integer_divide.j1 k S N (cl D) (rd (cl D) (((cl D).length : Int) - 1)) t213 q (i : Int) (mn (IntKind.u64.wrap (Int.tdiv (IntKind.u64.wrap ((rd t213 (wrap64 (((cl D).length : Int) - 1))) + (IntKind.u64.wrap ((rd t213 ((cl D).length : Int)) * 1000000000)))) (rd (cl D) (((cl D).length : Int) - 1)))) 999999999))) else (none)) else (none)) else (if (rd (cl D) (((cl D).length : Int) - 1)) = 0 then (none) else (integer_divide.j1 k S N (cl D) (rd (cl D) (((cl D).length : Int) - 1)) t213 q (i : Int) (mn (IntKind.u64.wrap (Int.tdiv (rd t213 (wrap64 (((cl D).length : Int) - 1))) (rd (cl D) (((cl D).length : Int) - 1)))) 999999999)))) else (none)) else (none)) else (integer_divide.j1 k S N (cl D) (rd (cl D) (((cl D).length : Int) - 1)) t213 q (i : Int) 0))) (fun k => ?_) (Ev.bind htr ?_)
  · simp only [integer_divide.l0]
    rw [if_pos (by omega), if_pos (by omega), if_pos (by omega), hrd, Option.bind_some, if_pos (by rw [List.length_singleton]; omega)]
  · have hw : wrap64 (((cl D).length : Int) - 1) = (j : Int) := by rw [htop]; exact wrap_ok (by omega) (by omega)
    rw [hw]
    by_cases hlen : (cl X).length ≥ (cl D).length
    · by_cases hgt : (cl X).length > (cl D).length
      · have hX2 : (cl X).length = j + 2 := by
          have : lenle X (j + 2) := by
            have hDj : lenle D (j + 1) := Nat.le_of_eq hj
            rw [lenle_iff] at hDj ⊢
            rw [Nat.pow_succ]
            omega
          have : (cl X).length ≤ j + 2 := this
          omega
        have hb := head_bound (cl X) (cl_ok X) j (by omega)
        have hu := rd_ok (cl X) (cl_ok X) (j : Int)
        have hv := rd_ok (cl X) (cl_ok X) ((j + 1 : Nat) : Int)
        have hdr : lv ((cl X).drop j) = rd (cl X) (j : Int) + 1000000000 * rd (cl X) ((j + 1 : Nat) : Int) := by
          rw [rd_drop (cl X) j (by omega), rd_drop (cl X) (j + 1) (by omega), List.drop_of_length_le (by omega)]
          show rd (cl X) (j : Int) + 1000000000 * (rd (cl X) ((j + 1 : Nat) : Int) + 1000000000 * 0) = _
          omega
        rw [hdr, cl_lv] at hb
        have hjj : ((cl D).length : Int) = ((j + 1 : Nat) : Int) := by omega
        obtain ⟨g, hg0, hg1, hg2⟩ := hgo (rd (cl X) (j : Int) + rd (cl X) ((j + 1 : Nat) : Int) * 1000000000) (by omega) (by omega) (by rw [Int.mul_comm (rd (cl X) ((j + 1 : Nat) : Int))]; exact hb.2) htD.2.1 htD.1
        refine Ev.congr (fun k => ?_) (after g hg1 hg2)
        rw [if_pos (by omega), if_pos (by omega), if_pos (by omega), if_pos (by omega), if_pos (by omega), if_pos (by omega), if_neg (by rw [htop]; omega), htop, hjj, wrap_u (i := rd (cl X) ((j + 1 : Nat) : Int) * 1000000000) (by omega) (by omega), wrap_u (i := rd (cl X) (j : Int) + rd (cl X) ((j + 1 : Nat) : Int) * 1000000000) (by omega) (by omega), hg0]
      · have hX1 : (cl X).length = j + 1 := by omega
        have hb := head_bound (cl X) (cl_ok X) j (by omega)
        have hu := rd_ok (cl X) (cl_ok X) (j : Int)
        have hdr : lv ((cl X).drop j) = rd (cl X) (j : Int) := by
          rw [rd_drop (cl X) j (by omega), List.drop_of_length_le (by omega), L9.lv_one]
        rw [hdr, cl_lv] at hb
        obtain ⟨g, hg0, hg1, hg2⟩ := hgo (rd (cl X) (j : Int)) (by omega) (by omega) hb.2 htD.2.1 htD.1
        refine Ev.congr (fun k => ?_) (after g hg1 hg2)
        rw [if_pos (by omega), if_pos (by omega), if_pos (by omega), if_neg (by omega), if_neg (by rw [htop]; omega), htop, hg0]
    · have hXlt : X < D := by
        have := L9.lt_of_len (cl_ok X) (cl_ok D) (cl_tight D) (by omega)
        rw [cl_lv, cl_lv] at this
        omega
      refine Ev.congr (fun k => ?_) (after 0 (by rw [Nat.div_eq_of_lt hXlt]; exact Nat.le_refl _) (by decide))
      rw [if_neg (by omega)]
      rfl
theorem div_loop (s : Nat) (hs : 1 ≤ s ∧ s < 1000000000) (N : List Int) (oN : okL N) (hNl : N.length ≤ 1000000) (D : Nat) (hD : 1 ≤ D) (hDl : lenle D 800) :
    ∀ (n : Nat) (lo hi qh : List Int) (R : Nat), N = lo ++ hi → lo.length = n → qh.length = hi.length → okL qh → R < D → lv hi = lv qh * D + R →
      ∃ Q R' : Nat, R' < D ∧ lv N = (Q : Int) * D + R' ∧ Ev (fun k => integer_divide.l0 k [(s : Int)] N (cl D) (rd (cl D) (((cl D).length : Int) - 1)) (cl R) (List.replicate n 0 ++ qh) ((n : Int) - 1)) (cl Q, cl (R' / s)) := by
  intro n
  induction n with
  | zero =>
    intro lo hi qh R hN hlo hq oq hR hv
    obtain rfl := List.length_eq_zero_iff.1 hlo
    rw [List.nil_append] at hN
    have h0 := L9.lv_nonneg qh oq
    refine ⟨(lv qh).toNat, R, hR, by rw [hN, hv, Int.toNat_of_nonneg h0], ?_⟩
    rw [List.replicate_zero, List.nil_append]
    have hsm := small_cl R s (len_mono hDl (Nat.le_of_lt hR) (by decide)) hs
    have htr := trimmed_cl qh (by rw [hq, ← hN]; omega) oq
    refine Ev.step (f := fun k => (integer_small.f k (cl R) (s : Int)).bind fun bt => (integer_trimmed.f k qh).bind fun t => some (t, bt.1)) (fun k => ?_) (Ev.bind hsm (Ev.bind htr (Ev.now _)))
    simp only [integer_divide.l0]
    rw [if_neg (by omega), if_pos (by rw [List.length_singleton]; omega)]
    rfl
  | succ n ih =>
    intro lo hi qh R hN hlo hq oq hR hv
    obtain ⟨lo, x, rfl⟩ := L9.snoc_of (l := lo) (by rintro rfl; simp at hlo)
    rw [List.length_append, List.length_singleton] at hlo
    have hN2 : N = lo ++ x :: hi := by rw [hN]; simp
    have hx := oN x (by rw [hN2]; simp)
    obtain ⟨xn, rfl⟩ : ∃ xn : Nat, x = (xn : Int) := ⟨x.toNat, by omega⟩
    have hlen : N.length = n + 1 + hi.length := by rw [hN2, List.length_append, List.length_cons]; omega
    have hX : (xn + 1000000000 * R) / D < 1000000000 := Nat.div_lt_of_lt_mul (by rw [Nat.mul_comm]; omega)
    have hdm := Nat.div_add_mod (xn + 1000000000 * R) D
    have hv2 : lv ((xn : Int) :: hi) = lv ((((xn + 1000000000 * R) / D : Nat) : Int) :: qh) * D + (((xn + 1000000000 * R) % D : Nat) : Int) := by
      have e1 : lv ((xn : Int) :: hi) = xn + 1000000000 * lv hi := rfl
      have e2 : lv ((((xn + 1000000000 * R) / D : Nat) : Int) :: qh) = (((xn + 1000000000 * R) / D : Nat) : Int) + 1000000000 * lv qh := rfl
      have e3 : ((D * ((xn + 1000000000 * R) / D) + (xn + 1000000000 * R) % D : Nat) : Int) = ((xn + 1000000000 * R : Nat) : Int) := congrArg _ hdm
      rw [Int.natCast_add, Int.natCast_mul] at e3
      rw [e1, e2, hv, Int.add_mul, Int.mul_comm (((xn + 1000000000 * R) / D : Nat) : Int) (D : Int), Int.mul_assoc]
      generalize lv qh * (D : Int) = Z
      generalize (D : Int) * (((xn + 1000000000 * R) / D : Nat) : Int) = Y at e3 ⊢
      generalize (((xn + 1000000000 * R) % D : Nat) : Int) = V at e3 ⊢
      omega
    obtain ⟨Q, R', h1, h2, h3⟩ := ih lo ((xn : Int) :: hi) ((((xn + 1000000000 * R) / D : Nat) : Int) :: qh) ((xn + 1000000000 * R) % D) hN2 (by omega) (by simp [hq]) (fun y hy => by
      rcases List.mem_cons.1 hy with rfl | hy
      · generalize (xn + 1000000000 * R) / D = z at hX
        omega
      · exact oq y hy) (Nat.mod_lt _ (by omega)) hv2
    refine ⟨Q, R', h1, h2, ?_⟩
    have hi1 : ((n + 1 : Nat) : Int) - 1 = (n : Int) := by omega
    have hset : (List.replicate (n + 1) (0 : Int) ++ qh).set n (((xn + 1000000000 * R) / D : Nat) : Int) = List.replicate n 0 ++ (((xn + 1000000000 * R) / D : Nat) : Int) :: qh := by
      have e3 : List.replicate (n + 1) (0 : Int) ++ qh = List.replicate n 0 ++ 0 :: qh := by rw [List.replicate_succ', List.append_assoc]; rfl
      have := set_mid (List.replicate n 0) 0 (((xn + 1000000000 * R) / D : Nat) : Int) qh (i := (n : Int)) (by rw [List.length_replicate])
      rw [Int.toNat_natCast] at this
      rw [e3, this]
      simp
    rw [hi1]
    refine div_step [(s : Int)] N D R xn hD hDl hR (List.replicate (n + 1) 0 ++ qh) n (by rw [List.length_append, List.length_replicate]; omega) (by omega) (rd_mid hN2 (by omega)) (by omega) (by rw [List.length_append, List.length_replicate]; omega) hNl _ ?_
    rw [hset]
    exact h3
/-- divide: the quotient and the remainder. -/
theorem divide_cl (a b : Nat) (hb : 1 ≤ b) (ha : lenle a 700) (hbl : lenle b 700) : Ev (fun k => integer_divide.f k (cl a) (cl b)) (cl (a / b), cl (a % b)) := by
  unfold integer_divide.f
  have hal' : (cl a).length ≤ 700 := ha
  have hbl' : (cl b).length ≤ 700 := hbl
  have hc := compare_cl a b (len_mono ha (Nat.le_refl _) (by decide))
  by_cases hlt : a < b
  · refine Ev.bind hc (Ev.congr (f := fun _ => some ([], cl a)) (fun k => if_pos (cmp_neg.2 (by omega))) ?_)
    rw [Nat.div_eq_of_lt hlt, Nat.mod_eq_of_lt hlt, L9.cl_zero]
    exact Ev.now _
  · have hm : 1 ≤ (cl b).length := by
      have : cl b ≠ [] := fun e => by have := cl_nil.1 e; omega
      exact List.length_pos_iff.2 this
    by_cases h1 : (cl b).length = 1
    · have hbB : b < 1000000000 := by
        have := lenle_iff.1 (Nat.le_of_eq h1 : lenle b 1)
        rwa [Nat.pow_one] at this
      have hrd : rd (cl b) 0 = (b : Int) := by
        have e : cl b = [((b : Nat) : Int)] := by rw [L9.cl_pos (by omega), Nat.mod_eq_of_lt hbB, Nat.div_eq_of_lt hbB, L9.cl_zero]
        rw [e]
        rfl
      have hsm := small_cl a b (len_mono ha (Nat.le_refl _) (by decide)) ⟨hb, hbB⟩
      have htr := trimmed_one (a % b) (Nat.lt_trans (Nat.mod_lt _ (by omega)) hbB)
      refine Ev.bind hc (Ev.congr (f := fun k => (integer_small.f k (cl a) (b : Int)).bind fun bt => (integer_trimmed.f k [bt.2]).bind fun t => some (bt.1, t)) (fun k => ?_) (Ev.bind hsm (Ev.bind htr (Ev.now _))))
      rw [if_neg (fun h => hlt (by have := cmp_neg.1 h; omega)), if_pos (by omega), if_pos (by omega), hrd]
    · obtain ⟨j, hj⟩ : ∃ j, (cl b).length = j + 1 := ⟨(cl b).length - 1, by omega⟩
      have htop : ((cl b).length : Int) - 1 = (j : Int) := by omega
      have hto := rd_ok (cl b) (cl_ok b) (j : Int)
      obtain ⟨t, ht⟩ : ∃ t : Nat, rd (cl b) (j : Int) = (t : Int) := ⟨(rd (cl b) (j : Int)).toNat, by omega⟩
      have ht1 : 1 ≤ t := by
        have h3 : rd (cl b) (j : Int) ≠ 0 := by
          have h4 : cl b = (cl b).take j ++ [rd (cl b) (j : Int)] := by
            have := List.take_append_drop j (cl b)
            rw [rd_drop (cl b) j (by omega), List.drop_of_length_le (by omega)] at this
            exact this.symm
          exact cl_tight b _ _ h4
        omega
      obtain ⟨s, hs⟩ : ∃ s, s = 1000000000 / (t + 1) := ⟨_, rfl⟩
      have hs1 : 1 ≤ s := by rw [hs]; exact (Nat.le_div_iff_mul_le (by omega)).2 (by omega)
      have hs2 : s < 1000000000 := by rw [hs]; exact Nat.lt_of_le_of_lt (Nat.div_le_div_left (c := 2) (by omega) (by decide)) (by decide)
      have hsl : lenle s 1 := lenle_iff.2 (by rw [Nat.pow_one]; exact hs2)
      have hn := times_one a s (len_mono ha (Nat.le_refl _) (by decide)) hs2
      have hd := times_one b s (len_mono hbl (Nat.le_refl _) (by decide)) hs2
      have hnl : lenle (a * s) 701 := len_mul ha hsl
      have hdl : lenle (b * s) 701 := len_mul hbl hsl
      have hnl' : (cl (a * s)).length ≤ 701 := hnl
      have hdl' : (cl (b * s)).length ≤ 701 := hdl
      have hbs : 1 ≤ b * s := Nat.mul_pos (by omega) (by omega)
      have hdm : 1 ≤ (cl (b * s)).length := by
        have : cl (b * s) ≠ [] := fun e => by have := cl_nil.1 e; omega
        exact List.length_pos_iff.2 this
      have e0 : lv ([] : List Int) = 0 := rfl
      obtain ⟨Q, R, g1, g2, g3⟩ := div_loop s ⟨hs1, hs2⟩ (cl (a * s)) (cl_ok _) (Nat.le_trans hnl' (by decide)) (b * s) hbs (len_mono hdl (Nat.le_refl _) (by decide)) (cl (a * s)).length (cl (a * s)) [] [] 0 (by simp) rfl rfl (fun x hx => by cases hx) (by omega) (by rw [e0]; simp)
      rw [cl_lv] at g2
      rw [L9.cl_zero, List.append_nil] at g3
      have g4 : a * s = b * s * Q + R := by
        have : ((a * s : Nat) : Int) = ((b * s * Q + R : Nat) : Int) := by rw [g2, Int.natCast_add, Int.natCast_mul (b * s) Q, Int.mul_comm (Q : Int)]
        exact Int.ofNat_inj.1 this
      have hQ : Q = a / b := by
        have := (Nat.div_mod_unique (a := a * s) (b := b * s) (c := R) (d := Q) (by omega)).2 ⟨by omega, g1⟩
        rw [← this.1, Nat.mul_div_mul_right a b (by omega)]
      have hR : R / s = a % b := by
        have := (Nat.div_mod_unique (a := a * s) (b := b * s) (c := R) (d := Q) (by omega)).2 ⟨by omega, g1⟩
        rw [← this.2, Nat.mul_mod_mul_right, Nat.mul_div_cancel _ (by omega)]
      rw [hQ, hR] at g3
      have hsc : IntKind.u64.wrap ((1000000000 : Int) / (IntKind.u64.wrap ((rd (cl b) (wrap64 (((cl b).length : Int) - 1))) + 1))) = (s : Int) := by
        rw [htop, wrap_ok (by omega) (by omega), ht, wrap_u (i := (t : Int) + 1) (by omega) (by omega), hs]
        have : (1000000000 : Int) / ((t : Int) + 1) = ((1000000000 / (t + 1) : Nat) : Int) := by rw [Int.natCast_ediv]; rfl
        rw [this, wrap_u (by omega) (by rw [← hs]; omega)]
      have hsc2 : IntKind.u64.wrap (Int.tdiv (1000000000 : Int) (IntKind.u64.wrap ((rd (cl b) (wrap64 (((cl b).length : Int) - 1))) + 1))) = (s : Int) := by
        rw [tdiv_pos (by decide)]
        exact hsc
      have hne0 : ¬ (IntKind.u64.wrap ((rd (cl b) (wrap64 (((cl b).length : Int) - 1))) + 1)) = 0 := by
        rw [htop, wrap_ok (by omega) (by omega), ht, wrap_u (i := (t : Int) + 1) (by omega) (by omega)]
        omega
      refine Ev.bind hc (Ev.congr (f := fun k => (integer_times.f k (cl a) [(s : Int)]).bind fun t163 => (integer_times.f k (cl b) [(s : Int)]).bind fun t166 => (if 0 ≤ (wrap64 ((t166.length : Int) - 1)) then (if (wrap64 ((t166.length : Int) - 1)) < (t166.length : Int) then (if 0 ≤ (t163.length : Int) then (if ((t163.length : Int) : Int).toNat ≤ 35184372088832 then (integer_divide.l0 k [(s : Int)] t163 t166 (rd t166 (wrap64 ((t166.length : Int) - 1))) ([] : List Int) (List.replicate ((t163.length : Int) : Int).toNat 0) (wrap64 ((t163.length : Int) - 1))) else (none)) else (none)) else (none)) else (none))) (fun k => ?_) (Ev.bind hn (Ev.bind hd (Ev.congr (fun k => ?_) g3))))
      · rw [if_neg (fun h => hlt (by have := cmp_neg.1 h; omega)), if_neg (by omega), if_pos (by rw [htop, wrap_ok (by omega) (by omega)]; omega), if_pos (by rw [htop, wrap_ok (by omega) (by omega)]; omega), if_neg hne0, Option.bind_some]
        first | rw [hsc2] | rw [hsc]
      · rw [wrap_ok (i := ((cl (b * s)).length : Int) - 1) (by omega) (by omega), if_pos (by omega), if_pos (by omega), if_pos (by omega), Int.toNat_natCast, if_pos (by omega), wrap_ok (i := ((cl (a * s)).length : Int) - 1) (by omega) (by omega)]
end Go.Proofs.YtdnjlmoggnbknaaDoor.PInt
