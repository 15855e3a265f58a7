/- Decimal digits: the text of a number, its value, and that a text without zeros in front is the text of its value; cut into groups of nine digits. No condition. -/
namespace Go.Proofs.YtdnjlmoggnbknaaDoor.Dec

abbrev Bs := List UInt8
def isDig (c : UInt8) : Bool := decide (48 ≤ c.toNat) && decide (c.toNat ≤ 57)
def dv (c : UInt8) : Nat := c.toNat - 48
/-- The number that digits spell, behind what was spelled before. -/
def val (acc : Nat) (l : Bs) : Nat := l.foldl (fun a c => a * 10 + dv c) acc
def allDig (l : Bs) : Prop := ∀ c ∈ l, isDig c = true
def ch (n : Nat) : UInt8 := UInt8.ofNat (48 + n)
theorem val_nil (acc : Nat) : val acc [] = acc := List.foldl_nil
theorem val_cons (acc : Nat) (c : UInt8) (r : Bs) : val acc (c :: r) = val (acc * 10 + dv c) r := List.foldl_cons
theorem val_app (a b : Bs) (acc : Nat) : val acc (a ++ b) = val (val acc a) b := by simp [val, List.foldl_append]
theorem val_snoc (a : Bs) (c : UInt8) (acc : Nat) : val acc (a ++ [c]) = val acc a * 10 + dv c := by rw [val_app]; rfl
theorem shift (a d p v : Nat) : (a * 10 + d) * p + v = a * (p * 10) + (d * p + v) := by
  rw [Nat.add_mul, Nat.mul_assoc, Nat.mul_comm 10 p, Nat.add_assoc]
theorem val_eq (l : Bs) : ∀ acc, val acc l = acc * 10 ^ l.length + val 0 l := by
  induction l with
  | nil => intro acc; simp [val]
  | cons c r ih =>
    intro acc
    rw [val_cons, val_cons, ih, ih (0 * 10 + dv c), List.length_cons, Nat.pow_succ, shift, Nat.zero_mul, Nat.zero_add]
theorem dig_bounds {c : UInt8} (h : isDig c = true) : 48 ≤ c.toNat ∧ c.toNat ≤ 57 := by simpa [isDig] using h
theorem dv_lt {c : UInt8} (h : isDig c = true) : dv c < 10 := by have := dig_bounds h; unfold dv; omega
theorem ch_toNat {n : Nat} (h : n < 10) : (ch n).toNat = 48 + n := by unfold ch; rw [UInt8.toNat_ofNat']; omega
theorem ch_dig {n : Nat} (h : n < 10) : isDig (ch n) = true := by
  simp only [isDig, ch_toNat h, Bool.and_eq_true, decide_eq_true_eq]
  omega
theorem ch_dv {n : Nat} (h : n < 10) : dv (ch n) = n := by unfold dv; rw [ch_toNat h]; omega
theorem dv_ch {c : UInt8} (h : isDig c = true) : ch (dv c) = c := by
  have := dig_bounds h
  apply UInt8.toNat_inj.1
  rw [ch_toNat (dv_lt h)]
  unfold dv
  omega
theorem val_lt (l : Bs) (h : allDig l) : val 0 l < 10 ^ l.length := by
  induction l with
  | nil => simp [val]
  | cons c r ih =>
    have h1 := ih (fun x hx => h x (by simp [hx]))
    have h2 := dv_lt (h c (by simp))
    rw [val_cons, val_eq, List.length_cons, Nat.pow_succ, Nat.zero_mul, Nat.zero_add]
    have h3 : dv c * 10 ^ r.length ≤ 9 * 10 ^ r.length := Nat.mul_le_mul_right _ (by omega)
    omega
/-- The digits of a number. -/
def dg (n : Nat) : Bs := if _h : n < 10 then [ch n] else dg (n / 10) ++ [ch (n % 10)]
termination_by n
decreasing_by omega
theorem dg_small {n : Nat} (h : n < 10) : dg n = [ch n] := by rw [dg, dif_pos h]
theorem dg_big {n : Nat} (h : ¬ n < 10) : dg n = dg (n / 10) ++ [ch (n % 10)] := by rw [dg, dif_neg h]
theorem dg_ne (n : Nat) : dg n ≠ [] := by
  by_cases h : n < 10
  · rw [dg_small h]; simp
  · rw [dg_big h]; simp
theorem dg_dig : ∀ (n : Nat), allDig (dg n) := by
  intro n
  induction n using Nat.strongRecOn with
  | _ n ih =>
    by_cases h : n < 10
    · rw [dg_small h]
      intro c hc
      simp only [List.mem_singleton] at hc
      subst hc
      exact ch_dig h
    · rw [dg_big h]
      intro c hc
      rcases List.mem_append.1 hc with hc | hc
      · exact ih (n / 10) (by omega) c hc
      · simp only [List.mem_singleton] at hc
        subst hc
        exact ch_dig (by omega)
theorem dg_val : ∀ (n : Nat), val 0 (dg n) = n := by
  intro n
  induction n using Nat.strongRecOn with
  | _ n ih =>
    by_cases h : n < 10
    · rw [dg_small h, val_cons, val_nil, ch_dv h]; omega
    · rw [dg_big h, val_snoc, ih (n / 10) (by omega), ch_dv (by omega)]; omega
/-- No zero in front but for 0 itself. -/
theorem dg_head : ∀ (n : Nat), n ≠ 0 → ∃ c r, dg n = c :: r ∧ c ≠ 48 := by
  intro n
  induction n using Nat.strongRecOn with
  | _ n ih =>
    intro hn
    by_cases h : n < 10
    · rw [dg_small h]
      refine ⟨_, _, rfl, fun e => ?_⟩
      have := congrArg UInt8.toNat e
      rw [ch_toNat h] at this
      have e48 : (48 : UInt8).toNat = 48 := rfl
      omega
    · obtain ⟨c, r, h1, h2⟩ := ih (n / 10) (by omega) (by omega)
      rw [dg_big h, h1]
      exact ⟨c, _, rfl, h2⟩
theorem pow_pos10 (k : Nat) : 0 < 10 ^ k := Nat.pow_pos (by decide)
/-- A text of digits without a zero in front is the text of its value. -/
theorem dg_of_val : ∀ (D : Bs), allDig D → D ≠ [] → (∀ c r, D = c :: r → r ≠ [] → c ≠ 48) → dg (val 0 D) = D := by
  intro D
  -- by the last digit
  generalize hn : D.length = n
  induction n generalizing D with
  | zero => intro _ h _; exact absurd (List.length_eq_zero_iff.1 hn) h
  | succ n ih =>
    intro hd hne hz
    obtain ⟨A, c, rfl⟩ : ∃ A c, D = A ++ [c] := ⟨D.dropLast, D.getLast hne, (List.dropLast_concat_getLast hne).symm⟩
    have hc : isDig c = true := hd c (by simp)
    rw [List.length_append, List.length_singleton] at hn
    by_cases hA : A = []
    · subst hA
      rw [List.nil_append, val_cons, val_nil, Nat.zero_mul, Nat.zero_add, dg_small (dv_lt hc), dv_ch hc]
    · have hAd : allDig A := fun x hx => hd x (by simp [hx])
      have hAz : ∀ a r, A = a :: r → a ≠ 48 := by
        intro a r e
        exact hz a (r ++ [c]) (by rw [e]; rfl) (by simp)
      have h1 := ih A (by omega) hAd hA (fun a r e _ => hAz a r e)
      have hpos : val 0 A ≠ 0 := by
        obtain ⟨a, r, e⟩ := List.exists_cons_of_ne_nil hA
        have ha := hAz a r e
        have had : isDig a = true := hAd a (by rw [e]; simp)
        have hb := dig_bounds had
        have hne48 : a.toNat ≠ 48 := fun h => ha (UInt8.toNat_inj.1 h)
        rw [e, val_cons, val_eq]
        have hdv : 1 ≤ 0 * 10 + dv a := by unfold dv; omega
        have := Nat.mul_le_mul_right (10 ^ r.length) hdv
        have := pow_pos10 r.length
        omega
      rw [val_snoc, dg_big (by omega)]
      have e1 : (val 0 A * 10 + dv c) / 10 = val 0 A := by have := dv_lt hc; omega
      have e2 : (val 0 A * 10 + dv c) % 10 = dv c := by have := dv_lt hc; omega
      rw [e1, e2, h1, dv_ch hc]
/-- The length of a number's text. -/
theorem dg_len : ∀ (k n : Nat), (dg n).length ≤ k + 1 ↔ n < 10 ^ (k + 1) := by
  intro k
  induction k with
  | zero =>
    intro n
    by_cases h : n < 10
    · rw [dg_small h]; simp [h]
    · rw [dg_big h, List.length_append, List.length_singleton]
      have h0 : 0 < (dg (n / 10)).length := List.length_pos_iff.2 (dg_ne _)
      have h1 : 10 ^ (0 + 1) = 10 := rfl
      rw [h1]
      exact ⟨fun _ => by omega, fun _ => by omega⟩
  | succ k ih =>
    intro n
    by_cases h : n < 10
    · rw [dg_small h]
      have h1 := pow_pos10 (k + 1)
      have e : 10 ^ (k + 1 + 1) = 10 ^ (k + 1) * 10 := Nat.pow_succ 10 (k + 1)
      rw [e, List.length_singleton]
      exact ⟨fun _ => by omega, fun _ => by omega⟩
    · have h1 := ih (n / 10)
      rw [dg_big h, List.length_append, List.length_singleton]
      have h2 : (dg (n / 10)).length + 1 ≤ k + 1 + 1 ↔ (dg (n / 10)).length ≤ k + 1 := by omega
      rw [h2, h1]
      have e : 10 ^ (k + 1 + 1) = 10 ^ (k + 1) * 10 := Nat.pow_succ 10 (k + 1)
      rw [e]
      omega
/-- So many digits, zeros in front. -/
def pad : Nat → Nat → Bs
  | 0, _ => []
  | k + 1, n => pad k (n / 10) ++ [ch (n % 10)]
/-- A number's text, its last k digits apart. -/
theorem dg_split : ∀ (k n m : Nat), n ≠ 0 → m < 10 ^ k → dg (n * 10 ^ k + m) = dg n ++ pad k m
  | 0, n, m, _, h => by simp at h; subst h; simp [pad]
  | k + 1, n, m, hn, h => by
    have e : 10 ^ (k + 1) = 10 ^ k * 10 := Nat.pow_succ 10 k
    rw [e] at h ⊢
    have h1 := pow_pos10 k
    have e3 : n * (10 ^ k * 10) + m = (n * 10 ^ k + m / 10) * 10 + m % 10 := by
      rw [Nat.add_mul, Nat.mul_assoc]
      omega
    have h2 : 1 ≤ n * 10 ^ k := Nat.mul_pos (by omega) h1
    rw [e3, dg_big (by omega)]
    have e1 : ((n * 10 ^ k + m / 10) * 10 + m % 10) / 10 = n * 10 ^ k + m / 10 := by omega
    have e2 : ((n * 10 ^ k + m / 10) * 10 + m % 10) % 10 = m % 10 := by omega
    rw [e1, e2, dg_split k n (m / 10) hn (by omega)]
    simp [pad]
/-- A number's text with zeros in front, as the program fills a group. -/
theorem pad_zeros : ∀ (k n : Nat), n < 10 ^ (k + 1) → pad (k + 1) n = List.replicate (k + 1 - (dg n).length) 48 ++ dg n
  | 0, n, h => by
    have h' : n < 10 := by simpa using h
    rw [dg_small h']
    have : n % 10 = n := by omega
    simp [pad, this]
  | k + 1, n, h => by
    by_cases hs : n < 10
    · have e1 : n / 10 = 0 := by omega
      have e2 : n % 10 = n := by omega
      have ih := pad_zeros k 0 (pow_pos10 _)
      rw [dg_small (by decide)] at ih
      rw [pad, e1, e2, ih, dg_small hs]
      have : ch 0 = 48 := by decide
      rw [this]
      simp only [List.length_singleton, Nat.add_sub_cancel]
      rw [List.replicate_succ']
    · have e : 10 ^ (k + 1 + 1) = 10 ^ (k + 1) * 10 := Nat.pow_succ 10 (k + 1)
      rw [e] at h
      rw [pad, pad_zeros k (n / 10) (by omega), dg_big hs, List.length_append, List.length_singleton]
      have e3 : k + 1 + 1 - ((dg (n / 10)).length + 1) = k + 1 - (dg (n / 10)).length := by omega
      rw [e3, List.append_assoc]
end Go.Proofs.YtdnjlmoggnbknaaDoor.Dec
