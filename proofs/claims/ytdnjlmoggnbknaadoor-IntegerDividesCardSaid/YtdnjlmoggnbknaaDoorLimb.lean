/- Lists of limbs to the base 10, the least one first: their value; without zeros at the end a number has one list; how two lists compare. No condition. -/
namespace Go.Proofs.YtdnjlmoggnbknaaDoor.L1

/-- The value. -/
def lv : List Int → Int
  | [] => 0
  | x :: r => x + 10 * lv r
def okL (l : List Int) : Prop := ∀ x ∈ l, 0 ≤ x ∧ x < 10
/-- No zero at the end. -/
def tight (l : List Int) : Prop := ∀ a x, l = a ++ [x] → x ≠ 0
def pw (n : Nat) : Int := 10 ^ n
theorem pw_succ (n : Nat) : pw (n + 1) = 10 * pw n := by unfold pw; rw [Int.pow_succ, Int.mul_comm]
theorem pw_zero : pw 0 = 1 := rfl
theorem pw_pos : ∀ n, 1 ≤ pw n
  | 0 => by decide
  | n + 1 => by have := pw_pos n; rw [pw_succ]; omega
theorem pw_add (a b : Nat) : pw (a + b) = pw a * pw b := by unfold pw; rw [Int.pow_add]
theorem okL_cons {x : Int} {r : List Int} (h : okL (x :: r)) : (0 ≤ x ∧ x < 10) ∧ okL r := ⟨h x (by simp), fun y hy => h y (by simp [hy])⟩
theorem okL_app {a b : List Int} (h : okL (a ++ b)) : okL a ∧ okL b := ⟨fun y hy => h y (by simp [hy]), fun y hy => h y (by simp [hy])⟩
theorem okL_mk {a b : List Int} (ha : okL a) (hb : okL b) : okL (a ++ b) := fun y hy => by
  rcases List.mem_append.1 hy with h | h
  · exact ha y h
  · exact hb y h
theorem lv_app (a b : List Int) : lv (a ++ b) = lv a + pw a.length * lv b := by
  induction a with
  | nil => simp [lv, pw_zero]
  | cons x r ih =>
    rw [List.cons_append, lv, ih, lv, List.length_cons, pw_succ, Int.mul_add, Int.mul_assoc, Int.add_assoc]
theorem lv_one (x : Int) : lv [x] = x := by simp [lv]
theorem lv_snoc (a : List Int) (x : Int) : lv (a ++ [x]) = lv a + pw a.length * x := by rw [lv_app, lv_one]
theorem lv_nonneg : ∀ l, okL l → 0 ≤ lv l
  | [], _ => Int.le_refl _
  | x :: r, h => by
    have := lv_nonneg r (okL_cons h).2
    have := (okL_cons h).1
    simp only [lv]
    omega
theorem lv_lt : ∀ l, okL l → lv l < pw l.length
  | [], _ => by decide
  | x :: r, h => by
    have := lv_lt r (okL_cons h).2
    have := (okL_cons h).1
    rw [lv, List.length_cons, pw_succ]
    omega
theorem lv_take_succ (l : List Int) (i : Nat) (h : i < l.length) : lv (l.take (i + 1)) = lv (l.take i) + pw i * l[i] := by
  rw [List.take_succ_eq_append_getElem h, lv_snoc, List.length_take, Nat.min_eq_left (by omega)]
theorem lv_split (l : List Int) (i : Nat) (h : i ≤ l.length) : lv l = lv (l.take i) + pw i * lv (l.drop i) := by
  have e := List.take_append_drop i l
  have := lv_app (l.take i) (l.drop i)
  rw [e, List.length_take, Nat.min_eq_left h] at this
  exact this
theorem lv_zeros : ∀ n, lv (List.replicate n 0) = 0
  | 0 => rfl
  | n + 1 => by rw [List.replicate_succ, lv, lv_zeros n]; decide
/-- A tight list's value is at least its greatest limb's weight. -/
theorem lv_ge (a : List Int) (x : Int) (h : okL (a ++ [x])) (hx : x ≠ 0) : pw a.length ≤ lv (a ++ [x]) := by
  have h1 := lv_nonneg a (okL_app h).1
  have h2 := (okL_app h).2 x (by simp)
  have h3 : pw a.length * 1 ≤ pw a.length * x := Int.mul_le_mul_of_nonneg_left (by omega) (by have := pw_pos a.length; omega)
  rw [lv_snoc]
  omega
theorem snoc_of {l : List Int} (h : l ≠ []) : ∃ a x, l = a ++ [x] := ⟨l.dropLast, l.getLast h, (List.dropLast_concat_getLast h).symm⟩
theorem tight_nil : tight [] := fun a x h => by simp at h
theorem pw_mono {m n : Nat} (h : m ≤ n) : pw m ≤ pw n := by
  obtain ⟨d, rfl⟩ := Nat.exists_eq_add_of_le h
  rw [pw_add]
  have h1 := pw_pos m
  have h2 := pw_pos d
  have := Int.mul_le_mul_of_nonneg_left h2 (by omega : 0 ≤ pw m)
  omega
/-- A shorter tight list has a smaller value. -/
theorem lt_of_len {a b : List Int} (ha : okL a) (hb : okL b) (tb : tight b) (h : a.length < b.length) : lv a < lv b := by
  have hbn : b ≠ [] := by rintro rfl; simp at h
  obtain ⟨c, x, rfl⟩ := snoc_of hbn
  have h1 := lv_lt a ha
  have h2 := lv_ge c x hb (tb c x rfl)
  rw [List.length_append, List.length_singleton] at h
  have h3 := pw_mono (show a.length ≤ c.length by omega)
  omega
/-- Two lists of one length compare by their greatest limbs, then by the rest. -/
theorem cmp_snoc {a b : List Int} {x y : Int} (ha : okL a) (hb : okL b) (hl : a.length = b.length) : (x < y → lv (a ++ [x]) < lv (b ++ [y])) ∧ (x = y → (lv (a ++ [x]) < lv (b ++ [y]) ↔ lv a < lv b) ∧ (lv (a ++ [x]) = lv (b ++ [y]) ↔ lv a = lv b)) := by
  rw [lv_snoc, lv_snoc, ← hl]
  have h1 := lv_lt a ha
  have h2 := lv_nonneg b hb
  refine ⟨fun h => ?_, fun h => ?_⟩
  · have h3 : pw a.length * (x + 1) ≤ pw a.length * y := Int.mul_le_mul_of_nonneg_left (by omega) (by have := pw_pos a.length; omega)
    rw [Int.mul_add, Int.mul_one] at h3
    omega
  · subst h
    exact ⟨by omega, by omega⟩
theorem eq_of_lv : ∀ (a b : List Int), okL a → okL b → a.length = b.length → lv a = lv b → a = b
  | [], [], _, _, _, _ => rfl
  | x :: r, y :: s, ha, hb, hl, h => by
    have h1 := okL_cons ha
    have h2 := okL_cons hb
    simp only [lv] at h
    simp only [List.length_cons, Nat.add_right_cancel_iff] at hl
    obtain ⟨rfl⟩ : x = y := by omega
    rw [eq_of_lv r s h1.2 h2.2 hl (by omega)]
/-- A number has one tight list. -/
theorem tight_inj {a b : List Int} (ha : okL a) (hb : okL b) (ta : tight a) (tb : tight b) (h : lv a = lv b) : a = b := by
  by_cases hl : a.length = b.length
  · exact eq_of_lv a b ha hb hl h
  · exfalso
    rcases Nat.lt_or_gt_of_ne hl with h1 | h1
    · have := lt_of_len ha hb tb h1; omega
    · have := lt_of_len hb ha ta h1; omega
/-- Without zeros at the end. -/
def trim (l : List Int) : List Int := (l.reverse.dropWhile (· == 0)).reverse
theorem trim_snoc (a : List Int) (x : Int) : trim (a ++ [x]) = if x = 0 then trim a else a ++ [x] := by
  unfold trim
  rw [List.reverse_append, List.reverse_singleton, List.singleton_append, List.dropWhile_cons]
  by_cases h : x = 0
  · simp [h]
  · simp [h]
theorem trim_props : ∀ (n : Nat) (l : List Int), l.length = n → lv (trim l) = lv l ∧ tight (trim l) ∧ (okL l → okL (trim l)) ∧ (trim l).length ≤ l.length := by
  intro n
  induction n with
  | zero =>
    intro l h
    obtain rfl := List.length_eq_zero_iff.1 h
    exact ⟨rfl, tight_nil, id, Nat.le_refl _⟩
  | succ n ih =>
    intro l h
    obtain ⟨a, x, rfl⟩ := snoc_of (l := l) (by rintro rfl; simp at h)
    rw [List.length_append, List.length_singleton] at h
    rw [trim_snoc]
    by_cases hx : x = 0
    · rw [if_pos hx]
      obtain ⟨h1, h2, h3, h4⟩ := ih a (by omega)
      refine ⟨by rw [h1, lv_snoc, hx]; simp, h2, fun ho => h3 (okL_app ho).1, by simp; omega⟩
    · rw [if_neg hx]
      refine ⟨rfl, fun b y e => ?_, id, Nat.le_refl _⟩
      have := List.append_inj_right' e rfl
      simp only [List.cons.injEq, and_true] at this
      omega

/-- The list of a number. -/
def cl (n : Nat) : List Int := if h : n = 0 then [] else ((n % 10 : Nat) : Int) :: cl (n / 10)
termination_by n
decreasing_by omega
theorem cl_zero : cl 0 = [] := by rw [cl, dif_pos rfl]
theorem cl_pos {n : Nat} (h : n ≠ 0) : cl n = ((n % 10 : Nat) : Int) :: cl (n / 10) := by rw [cl, dif_neg h]
theorem cl_lv : ∀ n, lv (cl n) = n := by
  intro n
  induction n using Nat.strongRecOn with
  | _ n ih =>
    by_cases h : n = 0
    · subst h; rw [cl_zero]; rfl
    · rw [cl_pos h, lv, ih (n / 10) (by omega)]; omega
theorem cl_ok : ∀ n, okL (cl n) := by
  intro n
  induction n using Nat.strongRecOn with
  | _ n ih =>
    by_cases h : n = 0
    · subst h; rw [cl_zero]; intro x hx; cases hx
    · rw [cl_pos h]
      intro x hx
      rcases List.mem_cons.1 hx with rfl | hx
      · omega
      · exact ih (n / 10) (by omega) x hx
theorem cl_nil {n : Nat} : cl n = [] ↔ n = 0 := by
  constructor
  · intro h
    have := cl_lv n
    rw [h, lv] at this
    omega
  · rintro rfl; exact cl_zero
theorem tight_cons {x : Int} {r : List Int} (hr : r ≠ []) (h : tight r) : tight (x :: r) := by
  intro a y e
  cases a with
  | nil =>
    rw [List.nil_append] at e
    injection e with _ e
    exact absurd e hr
  | cons z a =>
    rw [List.cons_append] at e
    injection e with _ e
    exact h a y e
theorem cl_tight : ∀ n, tight (cl n) := by
  intro n
  induction n using Nat.strongRecOn with
  | _ n ih =>
    by_cases h : n = 0
    · subst h; rw [cl_zero]; exact tight_nil
    · rw [cl_pos h]
      by_cases h2 : n / 10 = 0
      · rw [h2, cl_zero]
        intro a y e
        cases a with
        | nil =>
          rw [List.nil_append] at e
          injection e with e _
          omega
        | cons z a => simp at e
      · exact tight_cons (fun e => h2 (cl_nil.1 e)) (ih _ (by omega))
theorem eq_cl {l : List Int} (ho : okL l) (ht : tight l) : l = cl (lv l).toNat := tight_inj ho (cl_ok _) ht (cl_tight _) (by rw [cl_lv]; have := lv_nonneg l ho; omega)
theorem trim_cl {l : List Int} (ho : okL l) : trim l = cl (lv l).toNat := by
  have h := trim_props _ l rfl
  rw [eq_cl (h.2.2.1 ho) h.2.1, h.1]
theorem cl_len : ∀ (k n : Nat), (cl n).length ≤ k ↔ n < 10 ^ k := by
  intro k
  induction k with
  | zero =>
    intro n
    rw [Nat.pow_zero]
    have : (cl n).length ≤ 0 ↔ cl n = [] := by rw [Nat.le_zero, List.length_eq_zero_iff]
    rw [this, cl_nil]
    omega
  | succ k ih =>
    intro n
    by_cases h : n = 0
    · subst h
      rw [cl_zero]
      have : 0 < 10 ^ (k + 1) := Nat.pow_pos (by decide)
      simp [this]
    · rw [cl_pos h, List.length_cons, Nat.pow_succ, ← Nat.div_lt_iff_lt_mul (by decide), ← ih]
      omega
/-- The empty, or the last limb is not zero. -/
theorem cl_top {n : Nat} (h : n ≠ 0) : ∃ a x, cl n = a ++ [x] ∧ x ≠ 0 := by
  obtain ⟨a, x, e⟩ := snoc_of (l := cl n) (fun e => h (cl_nil.1 e))
  exact ⟨a, x, e, cl_tight n a x e⟩
end Go.Proofs.YtdnjlmoggnbknaaDoor.L1
