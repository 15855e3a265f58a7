/- The reference's Number64 tells of a sign and digits what strconv.ParseInt tells: whether the number is one of 64 bits. No condition beyond digits. -/
import Derived.Test.YtenjbcjekjmaeaaDoorTokN
namespace Go.Proofs.YtenjbcjekjmaeaaDoor.PTok
open Go.RowKit Go.Proofs.YtenjbcjekjmaeaaDoor.Ext Go.Proofs.YtenjbcjekjmaeaaDoorW.PrintWords
set_option linter.unusedVariables false
set_option linter.unusedSimpArgs false

theorem val_inj : ∀ (a b : Bs), a.length = b.length → allDig a → allDig b → val 0 a = val 0 b → a = b := by
  intro a
  induction a with
  | nil => intro b h _ _ _; cases b with
    | nil => rfl
    | cons d b => simp at h
  | cons c a ih =>
    intro b h ha hb hv
    cases b with
    | nil => simp at h
    | cons d b =>
      have hl : a.length = b.length := by simpa using h
      have ha' : allDig a := fun x hx => ha x (by simp [hx])
      have hb' : allDig b := fun x hx => hb x (by simp [hx])
      have hc := dig_bounds (ha c (by simp))
      have hd := dig_bounds (hb d (by simp))
      have la := val_lt a ha'
      have lb := val_lt b hb'
      rw [val_cons, val_cons, Nat.zero_mul, Nat.zero_add, Nat.zero_add, val_eq a, val_eq b, hl] at hv
      rw [hl] at la
      generalize 10 ^ b.length = p at *
      have e1 : dv c = c.toNat - 48 := rfl
      have e2 : dv d = d.toNat - 48 := rfl
      rcases Nat.lt_trichotomy (dv c) (dv d) with h1 | h1 | h1
      · have : (dv c + 1) * p ≤ dv d * p := Nat.mul_le_mul_right _ (by omega)
        rw [Nat.add_mul] at this
        omega
      · have hcd : c = d := UInt8.toNat_inj.1 (by omega)
        rw [h1] at hv
        rw [hcd, ih b hl ha' hb' (by omega)]
      · have : (dv d + 1) * p ≤ dv c * p := Nat.mul_le_mul_right _ (by omega)
        rw [Nat.add_mul] at this
        omega
theorem strGt_val (A B : ByteArray) (h : (lst A).length = (lst B).length) (ha : allDig (lst A)) (hb : allDig (lst B)) : strGt A B = decide (val 0 (lst B) < val 0 (lst A)) := by
  unfold strGt
  rw [toList_lst, toList_lst, Bool.eq_iff_iff]
  simp only [Bool.not_eq_true', Bool.or_eq_false_iff, decide_eq_true_eq]
  have h1 := less_val _ _ h ha hb
  constructor
  · rintro ⟨g1, g2⟩
    have n1 : ¬ val 0 (lst A) < val 0 (lst B) := fun hh => by rw [h1.2 hh] at g1; cases g1
    have n2 : ¬ val 0 (lst A) = val 0 (lst B) := fun hh => by rw [val_inj _ _ h ha hb hh] at g2; simp at g2
    omega
  · intro hh
    refine ⟨Bool.eq_false_iff.mpr fun g => ?_, Bool.eq_false_iff.mpr fun g => ?_⟩
    · have := h1.1 g; omega
    · have e : lst A = lst B := by simpa using g
      rw [e] at hh; omega
def most (neg : Bool) : ByteArray := if neg then ⟨#[57, 50, 50, 51, 51, 55, 50, 48, 51, 54, 56, 53, 52, 55, 55, 53, 56, 48, 56]⟩ else ⟨#[57, 50, 50, 51, 51, 55, 50, 48, 51, 54, 56, 53, 52, 55, 55, 53, 56, 48, 55]⟩
theorem most_len (neg : Bool) : (lst (most neg)).length = 19 := by cases neg <;> rfl
theorem most_val (neg : Bool) : val 0 (lst (most neg)) = if neg then 9223372036854775808 else 9223372036854775807 := by cases neg <;> decide +kernel
theorem most_dig (neg : Bool) : allDig (lst (most neg)) := by
  unfold allDig
  cases neg <;> decide +kernel
/-- Too great. -/
theorem over_eq (S : ByteArray) (neg : Bool) (hd : allDig (lst S)) (hh : 1 < (lst S).length → ∃ c r, lst S = c :: r ∧ c.toNat ≠ 48) :
    (if (S.size : Int) > ((most neg).size : Int) then true else if (S.size : Int) = ((most neg).size : Int) then strGt S (most neg) else false) = !decide (val 0 (lst S) ≤ if neg then 9223372036854775808 else 9223372036854775807) := by
  have hl := most_len neg
  have hv := most_val neg
  have lim : (if neg = true then 9223372036854775808 else 9223372036854775807 : Nat) ≤ 9223372036854775808 ∧ 9223372036854775807 ≤ (if neg = true then 9223372036854775808 else 9223372036854775807 : Nat) := by cases neg <;> simp
  rw [size_lst, size_lst, hl]
  generalize (if neg = true then 9223372036854775808 else 9223372036854775807 : Nat) = M at *
  by_cases h1 : ((lst S).length : Int) > ((19 : Nat) : Int)
  · rw [if_pos h1]
    obtain ⟨c, r, e, hc⟩ := hh (by omega)
    have hc2 := dig_bounds (hd c (by rw [e]; simp))
    have hr : 19 ≤ r.length := by rw [e] at h1; simp at h1; omega
    have hp : 10 ^ 19 ≤ 10 ^ r.length := Nat.pow_le_pow_right (by omega) hr
    have : val 0 (lst S) ≥ 10 ^ 19 := by
      rw [e, val_cons, val_eq, Nat.zero_mul, Nat.zero_add]
      have : 1 * 10 ^ r.length ≤ dv c * 10 ^ r.length := Nat.mul_le_mul_right _ (by unfold dv; omega)
      omega
    have e19 : (10 : Nat) ^ 19 = 10000000000000000000 := by decide
    rw [e19] at this
    rw [show decide (val 0 (lst S) ≤ M) = false from by simp; omega]
    rfl
  · rw [if_neg h1]
    by_cases h2 : ((lst S).length : Int) = ((19 : Nat) : Int)
    · rw [if_pos h2, strGt_val S (most neg) (by rw [hl]; omega) hd (most_dig neg), hv, Bool.eq_iff_iff]
      simp only [decide_eq_true_eq, Bool.not_eq_true', decide_eq_false_iff_not]
      omega
    · rw [if_neg h2]
      have hlt := val_lt _ hd
      have hp : 10 ^ (lst S).length ≤ 10 ^ 18 := Nat.pow_le_pow_right (by omega) (by omega)
      have e18 : (10 : Nat) ^ 18 = 1000000000000000000 := by decide
      rw [e18] at hp
      rw [show decide (val 0 (lst S) ≤ M) = true from by simp; omega]
      rfl
theorem value_ev (B : ByteArray) (hB : B.size ≤ 65536) (neg : Bool) : ∀ (q m1 : Bs) (x : Int), lst B = m1 ++ q → ∃ v, Ev (fun k => cellarerref13_Number64.l1 k B neg x (m1.length : Int)) (v, true) := by
  intro q
  induction q with
  | nil =>
    intro m1 x h
    have hl : B.size = m1.length := by rw [size_lst, h]; simp
    cases neg with
    | true =>
      refine ⟨x, Ev.step (f := fun _ => some (x, true)) (fun k => ?_) (Ev.now _)⟩
      simp only [cellarerref13_Number64.l1]
      rw [if_neg (by omega), if_pos trivial]
    | false =>
      refine ⟨wrap64 (-x), Ev.step (f := fun _ => some (wrap64 (-x), true)) (fun k => ?_) (Ev.now _)⟩
      simp only [cellarerref13_Number64.l1]
      rw [if_neg (by omega), if_neg (by simp)]
  | cons d q ih =>
    intro m1 x h
    have hl : m1.length < B.size := by rw [size_lst]; exact mid_lt h
    have hw : wrap64 ((m1.length : Int) + 1) = ((m1 ++ [d]).length : Int) := by rw [wrap_ok (by omega) (by omega)]; simp
    obtain ⟨v, hv⟩ := ih (m1 ++ [d]) (wrap64 ((wrap64 (10 * x)) - (((bt B (m1.length : Int)) - 48) % 256))) (by rw [h]; simp)
    refine ⟨v, Ev.step (fun k => ?_) hv⟩
    simp only [cellarerref13_Number64.l1]
    rw [if_pos (by omega), if_pos (by omega), hw]
theorem strip_ev (neg : Bool) (R : Int × Bool) : ∀ (n : Nat) (B : ByteArray) (D : Bs), D.length ≤ n → D ≠ [] → lst B = D → D.length ≤ 65536 → Ev (fun k => cellarerref13_Number64.j2 k (mkS (strip D)) neg) R → Ev (fun k => cellarerref13_Number64.l0 k B neg) R := by
  intro n
  induction n with
  | zero => intro B D h hne _ _ _; exact absurd (List.eq_nil_of_length_eq_zero (by omega)) hne
  | succ n ih =>
    intro B D h hne hB hs hj
    cases D with
    | nil => exact absurd rfl hne
    | cons c D =>
      have hb := bt_mid (s := B) (pre := []) hB
      simp only [List.length_nil, Int.natCast_zero] at hb
      have hsz : B.size = D.length + 1 := by rw [size_lst, hB]; simp
      cases D with
      | nil =>
        rw [show strip [c] = [c] from rfl, ← hB, mkS_lst] at hj
        refine Ev.step (fun k => ?_) hj
        simp only [cellarerref13_Number64.l0]
        simp only [List.length_nil] at hsz
        rw [if_neg (by omega)]
      | cons d D =>
        simp only [List.length_cons] at hsz
        by_cases h0 : c.toNat = 48
        · rw [strip, if_pos h0] at hj
          have hx : lst (B.extract 1 B.size) = d :: D := by rw [lst_extract, size_lst, List.take_length, hB]; rfl
          refine Ev.step (fun k => ?_) (ih (B.extract 1 B.size) (d :: D) (by simp at h ⊢; omega) (by simp) hx (by simp at hs ⊢; omega) hj)
          simp only [cellarerref13_Number64.l0]
          rw [if_pos (by omega), if_pos (by omega), hb, if_pos (by omega), if_pos (by omega)]
          simp only [Option.bind_some]
        · rw [strip, if_neg h0, ← hB, mkS_lst] at hj
          refine Ev.step (fun k => ?_) hj
          simp only [cellarerref13_Number64.l0]
          rw [if_pos (by omega), if_pos (by omega), hb, if_neg (by omega)]
theorem tail_ev (S : ByteArray) (hS : S.size ≤ 65536) (neg : Bool) (hd : allDig (lst S)) (hh : 1 < (lst S).length → ∃ c r, lst S = c :: r ∧ c.toNat ≠ 48) :
    ∃ v, Ev (fun k => cellarerref13_Number64.j2 k S neg) (v, decide (val 0 (lst S) ≤ if neg then 9223372036854775808 else 9223372036854775807)) := by
  have ho := over_eq S neg hd hh
  have hj4 : ∀ b, b = (!decide (val 0 (lst S) ≤ if neg then 9223372036854775808 else 9223372036854775807)) → ∃ v, Ev (fun k => cellarerref13_Number64.j4 k S neg b) (v, decide (val 0 (lst S) ≤ if neg then 9223372036854775808 else 9223372036854775807)) := by
    intro b hb
    cases b with
    | true =>
      have : decide (val 0 (lst S) ≤ if neg then 9223372036854775808 else 9223372036854775807) = false := by simpa using hb.symm
      rw [this]
      refine ⟨0, Ev.step (f := fun _ => some (0, false)) (fun k => ?_) (Ev.now _)⟩
      simp only [cellarerref13_Number64.j4]
      rw [if_pos trivial]
    | false =>
      have : decide (val 0 (lst S) ≤ if neg then 9223372036854775808 else 9223372036854775807) = true := by simpa using hb.symm
      rw [this]
      obtain ⟨v, hv⟩ := value_ev S hS neg (lst S) [] 0 rfl
      refine ⟨v, Ev.step (fun k => ?_) hv⟩
      simp only [cellarerref13_Number64.j4]
      rw [if_neg (by simp)]
      rfl
  obtain ⟨v, hv⟩ := hj4 _ ho
  refine ⟨v, Ev.step (f := fun k => cellarerref13_Number64.j3 k S neg (most neg)) (fun k => ?_) (Ev.step (fun k => ?_) hv)⟩
  · simp only [cellarerref13_Number64.j2]
    cases neg <;> rfl
  · simp only [cellarerref13_Number64.j3]
    split
    · rfl
    · split <;> rfl
/-- Number64 of the reference. -/
theorem number64_ev (T : ByteArray) (neg : Bool) (D : Bs) (hT : lst T = if neg then 45 :: D else D) (hD : allDig D) (hne : D ≠ []) (hs : T.size ≤ 65536) :
    ∃ v, Ev (fun k => cellarerref13_Number64.f k T) (v, isNum (lst T)) := by
  have hnum : isNum (lst T) = decide (val 0 D ≤ if neg then 9223372036854775808 else 9223372036854775807) := by
    rw [hT]
    cases neg with
    | true => exact isNum_neg D hD hne
    | false => exact isNum_pos D hD hne
  have hDl : D.length ≤ 65536 := by rw [size_lst, hT] at hs; cases neg <;> simp at hs <;> omega
  have hst : (strip D).length ≤ D.length := by
    clear hnum hT hD hne hDl
    induction D using strip.induct with
    | case1 => simp [strip]
    | case2 => simp [strip]
    | case3 c d r h ih => rw [strip, if_pos h]; simp at ih ⊢; omega
    | case4 c d r h => rw [strip, if_neg h]; exact Nat.le_refl _
  obtain ⟨v, hv⟩ := tail_ev (mkS (strip D)) (by rw [size_lst, lst_mkS]; omega) neg (by rw [lst_mkS]; exact strip_dig D hD) (by rw [lst_mkS]; exact strip_head D)
  rw [lst_mkS, strip_val, ← hnum] at hv
  refine ⟨v, ?_⟩
  cases neg with
  | true =>
    simp only [if_true] at hT
    have hb := bt_mid (s := T) (pre := []) hT
    simp only [List.length_nil, Int.natCast_zero] at hb
    have hsz : T.size = D.length + 1 := by rw [size_lst, hT]; simp
    have hx : lst (T.extract 1 T.size) = D := by rw [lst_extract, size_lst, List.take_length, hT]; rfl
    refine Ev.congr (f := fun k => cellarerref13_Number64.j0 k (T.extract 1 T.size) true) (fun k => ?_) (Ev.step (fun k => ?_) (strip_ev true _ D.length (T.extract 1 T.size) D (Nat.le_refl _) hne hx hDl hv))
    · unfold cellarerref13_Number64.f
      rw [if_pos (by omega), hb]
      simp only [Option.bind_some]
      rw [if_pos (by decide), if_pos (by omega)]
      rfl
    · simp only [cellarerref13_Number64.j0]
  | false =>
    simp only [Bool.false_eq_true, if_false] at hT
    cases D with
    | nil => exact absurd rfl hne
    | cons c D =>
      have hc := dig_bounds (hD c (by simp))
      have hb := bt_mid (s := T) (pre := []) hT
      simp only [List.length_nil, Int.natCast_zero] at hb
      have hsz : T.size = D.length + 1 := by rw [size_lst, hT]; simp
      have hneq : ((c.toNat : Int) == 45) = false := by simp; omega
      refine Ev.congr (f := fun k => cellarerref13_Number64.j0 k T false) (fun k => ?_) (Ev.step (fun k => ?_) (strip_ev false _ (c :: D).length T (c :: D) (Nat.le_refl _) hne hT hDl hv))
      · unfold cellarerref13_Number64.f
        rw [if_pos (by omega), hb, hneq]
        simp only [Option.bind_some]
        rw [if_neg (by simp)]
      · simp only [cellarerref13_Number64.j0]
end Go.Proofs.YtenjbcjekjmaeaaDoor.PTok
