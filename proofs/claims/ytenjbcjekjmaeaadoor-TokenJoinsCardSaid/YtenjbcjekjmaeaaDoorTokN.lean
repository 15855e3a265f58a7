/- Whether a number of 64 bits: what strconv.ParseInt tells of a sign and digits is what the reference's comparison of texts tells. No condition beyond digits. -/
import Derived.Test.YtenjbcjekjmaeaaDoorTokP
namespace Go.Proofs.YtenjbcjekjmaeaaDoor.PTok
open Go.RowKit Go.Proofs.YtenjbcjekjmaeaaDoor.Ext Go.Proofs.YtenjbcjekjmaeaaDoorW.PrintWords
set_option linter.unusedVariables false
set_option linter.unusedSimpArgs false

def dv (c : UInt8) : Nat := c.toNat - 48
/-- The number that digits spell, behind what was spelled before. -/
def val (acc : Nat) (l : Bs) : Nat := l.foldl (fun a c => a * 10 + dv c) acc
theorem val_nil (acc : Nat) : val acc [] = acc := List.foldl_nil
theorem val_cons (acc : Nat) (c : UInt8) (r : Bs) : val acc (c :: r) = val (acc * 10 + dv c) r := List.foldl_cons
theorem val_ge (l : Bs) : ∀ acc, acc ≤ val acc l := by
  induction l with
  | nil => intro acc; exact Nat.le_refl _
  | cons c r ih => intro acc; rw [val_cons]; exact Nat.le_trans (by omega) (ih _)
theorem shift (a d p v : Nat) : (a * 10 + d) * p + v = a * (p * 10) + (d * p + v) := by
  rw [Nat.add_mul, Nat.mul_assoc, Nat.mul_comm 10 p, Nat.add_assoc]
theorem val_eq (l : Bs) : ∀ acc, val acc l = acc * 10 ^ l.length + val 0 l := by
  induction l with
  | nil => intro acc; rw [val_nil, val_nil, List.length_nil]; omega
  | cons c r ih =>
    intro acc
    have h1 := ih (acc * 10 + dv c)
    have h2 := ih (0 * 10 + dv c)
    rw [val_cons, val_cons, List.length_cons, Nat.pow_succ, h1, h2, Nat.zero_mul, Nat.zero_add]
    exact shift _ _ _ _
def allDig (l : Bs) : Prop := ∀ c ∈ l, isDig c = true
theorem dig_bounds {c : UInt8} (h : isDig c = true) : 48 ≤ c.toNat ∧ c.toNat ≤ 57 := by simpa [isDig] using h
theorem val_lt (l : Bs) (h : allDig l) : val 0 l < 10 ^ l.length := by
  induction l with
  | nil => rw [val_nil, List.length_nil]; omega
  | cons c r ih =>
    have hc := dig_bounds (h c (by simp))
    have ih' := ih (fun d hd => h d (by simp [hd]))
    rw [val_cons, List.length_cons, val_eq, Nat.pow_succ, Nat.zero_mul, Nat.zero_add]
    have : dv c ≤ 9 := by unfold dv; omega
    have : dv c * 10 ^ r.length ≤ 9 * 10 ^ r.length := Nat.mul_le_mul_right _ this
    omega
theorem parseM (M : Nat) (hM : M = 18446744073709551615) (l : Bs) : ∀ acc, acc ≤ M → allDig l → Lib.parseUintM M acc l = if val acc l ≤ M then .ok (val acc l) else .range := by
  induction l with
  | nil => intro acc ha _; rw [val_nil, if_pos ha]; rfl
  | cons c r ih =>
    intro acc ha h
    have hc := dig_bounds (h c (by simp))
    have hr : allDig r := fun d hd => h d (by simp [hd])
    unfold Lib.parseUintM
    rw [if_pos hc, val_cons]
    have hge := val_ge r (acc * 10 + dv c)
    have e : dv c = c.toNat - 48 := rfl
    rw [e] at hge ⊢
    by_cases h1 : 1844674407370955162 ≤ acc
    · rw [if_pos h1, if_neg (by omega)]
    · rw [if_neg h1]
      by_cases h2 : M < acc * 10 + (c.toNat - 48)
      · rw [if_pos h2, if_neg (by omega)]
      · rw [if_neg h2]
        exact ih _ (by omega) hr
theorem isNum_pos (D : Bs) (hD : allDig D) (hne : D ≠ []) : isNum D = decide (val 0 D ≤ 9223372036854775807) := by
  unfold isNum Lib.parseIntB
  cases D with
  | nil => exact absurd rfl hne
  | cons c r =>
    have hc := dig_bounds (hD c (by simp))
    simp only [Lib.parseUintB]
    rw [if_neg (by omega : ¬ (c.toNat = 43 ∨ c.toNat = 45)), if_neg (by simp), parseM _ rfl _ 0 (by simp) hD]
    have h45 : ¬ c.toNat = 45 := by omega
    generalize val 0 (c :: r) = v
    by_cases h1 : v ≤ 2 ^ 64 - 1
    · rw [if_pos h1]
      dsimp only
      by_cases h2 : v ≤ 9223372036854775807
      · rw [if_neg (by rintro ⟨_, h⟩; simp at h; omega), if_neg (by rintro ⟨h, _⟩; exact h45 h)]
        simp [h2]
      · rw [if_pos ⟨h45, by simp; omega⟩]
        simp [h2]
    · rw [if_neg h1]
      simp
      omega
theorem isNum_neg (D : Bs) (hD : allDig D) (hne : D ≠ []) : isNum (45 :: D) = decide (val 0 D ≤ 9223372036854775808) := by
  unfold isNum Lib.parseIntB
  simp only [Lib.parseUintB]
  rw [if_pos (show UInt8.toNat 45 = 43 ∨ UInt8.toNat 45 = 45 from Or.inr rfl), if_neg hne, parseM _ rfl _ 0 (by simp) hD]
  generalize val 0 D = v
  by_cases h1 : v ≤ 2 ^ 64 - 1
  · rw [if_pos h1]
    dsimp only
    rw [if_neg (by rintro ⟨h, _⟩; exact h rfl)]
    by_cases h2 : v ≤ 9223372036854775808
    · rw [if_neg (by rintro ⟨_, h⟩; simp at h; omega)]
      simp [h2]
    · rw [if_pos ⟨rfl, by simp; omega⟩]
      simp [h2]
  · rw [if_neg h1]
    simp
    omega
/-- Digits without what stands in front as zeros, but for the last one. -/
def strip : Bs → Bs
  | [] => []
  | [c] => [c]
  | c :: d :: r => if c.toNat = 48 then strip (d :: r) else c :: d :: r
theorem strip_val (D : Bs) : val 0 (strip D) = val 0 D := by
  induction D using strip.induct with
  | case1 => rfl
  | case2 => rfl
  | case3 c d r h ih => rw [strip, if_pos h, ih, val_cons 0 c, show dv c = 0 by unfold dv; omega]
  | case4 c d r h => rw [strip, if_neg h]
theorem strip_dig (D : Bs) (hD : allDig D) : allDig (strip D) := by
  induction D using strip.induct with
  | case1 => exact hD
  | case2 => exact hD
  | case3 c d r h ih => rw [strip, if_pos h]; exact ih (fun x hx => hD x (by simp at hx ⊢; exact .inr hx))
  | case4 c d r h => rw [strip, if_neg h]; exact hD
theorem strip_head (D : Bs) (h1 : 1 < (strip D).length) : ∃ c r, strip D = c :: r ∧ c.toNat ≠ 48 := by
  induction D using strip.induct with
  | case1 => simp [strip] at h1
  | case2 => simp [strip] at h1
  | case3 c d r h ih => rw [strip, if_pos h] at h1 ⊢; exact ih h1
  | case4 c d r h => rw [strip, if_neg h]; exact ⟨_, _, rfl, h⟩
/-- Texts of digits of one length compare as their numbers do. -/
theorem less_val : ∀ (a b : Bs), a.length = b.length → allDig a → allDig b → (Op.bytesLess a b = true ↔ val 0 a < val 0 b) := by
  intro a
  induction a with
  | nil => intro b h _ _; cases b with
    | nil => simp [Op.bytesLess]
    | cons d b => simp at h
  | cons c a ih =>
    intro b h ha hb
    cases b with
    | nil => simp at h
    | cons d b =>
      have hl : a.length = b.length := by simpa using h
      have ha' : allDig a := fun x hx => ha x (by simp [hx])
      have hb' : allDig b := fun x hx => hb x (by simp [hx])
      have hc := dig_bounds (ha c (by simp))
      have hd := dig_bounds (hb d (by simp))
      have i := ih b hl ha' hb'
      have la := val_lt a ha'
      have lb := val_lt b hb'
      rw [val_cons, val_cons, Nat.zero_mul, Nat.zero_add, Nat.zero_add, val_eq a, val_eq b, hl]
      rw [hl] at la
      generalize 10 ^ b.length = p at *
      have e1 : dv c = c.toNat - 48 := rfl
      have e2 : dv d = d.toNat - 48 := rfl
      unfold Op.bytesLess
      rcases Nat.lt_trichotomy c.toNat d.toNat with h1 | h1 | h1
      · have : (dv c + 1) * p ≤ dv d * p := Nat.mul_le_mul_right _ (by omega)
        rw [Nat.add_mul] at this
        have hlt : c < d := by rw [UInt8.lt_iff_toNat_lt]; exact h1
        simp [hlt]
        omega
      · have hcd : c = d := UInt8.toNat_inj.1 h1
        subst hcd
        simp
        rw [i]
      · have : (dv d + 1) * p ≤ dv c * p := Nat.mul_le_mul_right _ (by omega)
        rw [Nat.add_mul] at this
        have hlt : ¬ c < d := by rw [UInt8.lt_iff_toNat_lt]; omega
        have hne : ¬ c = d := fun e => by subst e; omega
        simp [hlt, hne]
        omega
end Go.Proofs.YtenjbcjekjmaeaaDoor.PTok
