/- What the program's read computes of a canonical text: its sign and its limbs; strconv's parsing of a text of digits; the text of a list of limbs. No condition but sizes. -/
import Derived.Test.YtdnjlmoggnbknaaDoorIb
namespace Go.Proofs.YtdnjlmoggnbknaaDoor.PInt
open Go.RowKit Go.Proofs.YtdnjlmoggnbknaaDoor.Ext Go.Proofs.YtdnjlmoggnbknaaDoorW.PrintWords Go.Proofs.YtdnjlmoggnbknaaDoor.Dec
set_option linter.unusedVariables false
set_option linter.unusedSimpArgs false

theorem val_ge (l : Bs) (acc : Nat) : acc ≤ val acc l := by
  rw [val_eq]
  have := Nat.mul_le_mul_left acc (pow_pos10 l.length)
  omega
theorem parseM (M : Nat) (hM : M = 18446744073709551615) (l : Bs) : ∀ acc, acc ≤ M → allDig l → Lib.parseUintM M acc l = if val acc l ≤ M then .ok (val acc l) else .range := by
  induction l with
  | nil => intro acc ha _; rw [val_nil, if_pos ha]; rfl
  | cons c r ih =>
    intro acc ha h
    have hc := dig_bounds (h c (by simp))
    have hr : allDig r := fun d hd => h d (by simp [hd])
    unfold Lib.parseUintM
    rw [if_pos hc, val_cons]
    have hge := val_ge r (acc * 10 + dv c)
    have e : dv c = c.toNat - 48 := rfl
    rw [e] at hge ⊢
    by_cases h1 : 1844674407370955162 ≤ acc
    · rw [if_pos h1, if_neg (by omega)]
    · rw [if_neg h1]
      by_cases h2 : M < acc * 10 + (c.toNat - 48)
      · rw [if_pos h2, if_neg (by omega)]
      · rw [if_neg h2]
        exact ih _ (by omega) hr
theorem uint_dig (l : Bs) (hd : allDig l) (hne : l ≠ []) : Lib.parseUintB 64 l = if val 0 l ≤ 18446744073709551615 then .ok (val 0 l) else .range := by
  unfold Lib.parseUintB
  rw [if_neg hne]
  exact parseM (2 ^ 64 - 1) (by decide) l 0 (by decide) hd
theorem uint_ok (s : ByteArray) (hd : allDig (lst s)) (hne : lst s ≠ []) (hl : (lst s).length ≤ 18) : strconv_ParseUint.f s 10 64 = some ((val 0 (lst s) : Int), none) := by
  have h1 := val_lt _ hd
  have h2 : 10 ^ (lst s).length ≤ 10 ^ 18 := Nat.pow_le_pow_right (by decide) hl
  unfold strconv_ParseUint.f
  rw [if_pos ⟨rfl, rfl, by rw [size_lst]; omega⟩]
  have e : Lib.parseUintB 64 s.data.toList = .ok (val 0 (lst s)) := by
    have := uint_dig (lst s) hd hne
    rw [if_pos (by omega)] at this
    exact this
  rw [e]
/-! limbs and texts -/
open L9 in
theorem text_lv : ∀ (a : List Int) (x : Int), okL (a ++ [x]) → x ≠ 0 → dg (lv (a ++ [x])).toNat = dg x.toNat ++ a.reverse.flatMap fun y => pad 9 y.toNat
  | [], x, h, hx => by simp [lv]
  | y :: a, x, h, hx => by
    have h1 := okL_cons h
    have ih := text_lv a x h1.2 hx
    have h2 := lv_ge a x h1.2 hx
    have h3 := pw_pos a.length
    have hy := h1.1
    have e : (lv (y :: a ++ [x])).toNat = (lv (a ++ [x])).toNat * 10 ^ 9 + y.toNat := by
      rw [List.cons_append, lv]
      omega
    rw [e, dg_split 9 _ _ (by omega) (by omega), ih, List.reverse_cons, List.flatMap_append]
    simp
theorem grp_pad (y : Int) (h : 0 ≤ y ∧ y < 1000000000) : grp y = pad 9 y.toNat := by
  unfold grp
  rw [dg_lib, pad_zeros 8 y.toNat (by omega)]
theorem flat_grp : ∀ l : List Int, L9.okL l → l.flatMap grp = l.flatMap fun y => pad 9 y.toNat
  | [], _ => rfl
  | y :: l, h => by
    have h1 := L9.okL_cons h
    rw [List.flatMap_cons, List.flatMap_cons, grp_pad y h1.1, flat_grp l h1.2]
theorem textL_cl {n : Nat} (h : n ≠ 0) : textL (L9.cl n) = dg n := by
  obtain ⟨a, x, e, hx⟩ := L9.cl_top h
  have ho := L9.cl_ok n
  have hv := L9.cl_lv n
  rw [e] at ho hv ⊢
  have h2 := text_lv a x ho hx
  rw [hv, Int.toNat_natCast] at h2
  unfold textL
  rw [List.reverse_append, List.reverse_singleton, List.singleton_append, textR, dg_lib, h2, flat_grp a.reverse (fun y hy => (L9.okL_app ho).1 y (by simpa using hy))]
/-- What text hands back of a number. -/
def res (z : Int) : ByteArray × Int := if z.natAbs < lim400 then (mkS (T z), 0) else (mkS [], 5)
theorem text_num (z : Int) (hl : (L9.cl z.natAbs).length ≤ 1000000) : integer_number_text.f (decide (z < 0)) (L9.cl z.natAbs) = some (res z) := by
  unfold integer_number_text.f res
  have hall : ((L9.cl z.natAbs).all fun x => decide (0 ≤ x ∧ x < 1000000000)) = true := List.all_eq_true.2 (fun x hx => decide_eq_true (L9.cl_ok _ x hx))
  rw [if_pos ⟨hall, hl⟩]
  by_cases h0 : z = 0
  · subst h0
    rw [Int.natAbs_zero, if_pos (L9.cl_nil.2 rfl), if_pos lim_pos, T_zero]
    rfl
  · rw [if_neg (fun e => h0 (by have := L9.cl_nil.1 e; omega)), textL_cl (by omega)]
    by_cases h4 : z.natAbs < lim400
    · have h5 := (dg_len400 z.natAbs).2 h4
      rw [if_neg (by omega), if_pos h4]
      unfold T
      by_cases hz : z < 0
      · rw [if_pos (decide_eq_true hz), if_pos hz]; rfl
      · rw [if_neg (by simpa using hz), if_neg hz]; rfl
    · have h5 : ¬ (dg z.natAbs).length ≤ 400 := fun h => h4 ((dg_len400 z.natAbs).1 h)
      rw [if_pos (by omega), if_neg h4]
      rfl
open L9 in
theorem group_step (d g : Bs) (l : List Int) (hg : g.length = 9 ∨ d = []) :
    (val 0 (d ++ g) : Int) * pw l.length + lv l = (val 0 d : Int) * pw (l.length + 1) + lv (l ++ [(val 0 g : Int)]) := by
  rw [val_app, val_eq, lv_snoc, pw_succ]
  rcases hg with hg | rfl
  · rw [hg]
    have e : ((val 0 d * 10 ^ 9 + val 0 g : Nat) : Int) = (val 0 d : Int) * 1000000000 + (val 0 g : Int) := by omega
    rw [e, Int.add_mul, Int.mul_assoc, Int.mul_comm (pw l.length) (val 0 g : Int)]
    omega
  · rw [val_nil]
    have e : ((0 * 10 ^ g.length + val 0 g : Nat) : Int) = (val 0 g : Int) := by rw [Nat.zero_mul, Nat.zero_add]
    rw [e, Int.mul_comm (pw l.length) (val 0 g : Int)]
    simp
    omega
theorem read_loop (neg : Bool) : ∀ (n : Nat) (d : Bs), d.length = n → allDig d → n ≤ 400 → ∀ l : List Int, L9.okL l → l.length + n ≤ 1000 →
    Ev (fun k => integer_read.l0 k (mkS d) neg l) (neg, L9.cl ((val 0 d : Int) * L9.pw l.length + L9.lv l).toNat) := by
  intro n
  induction n using Nat.strongRecOn with
  | _ n ih =>
    intro d hn hd h4 l ho hl
    by_cases h0 : n = 0
    · have : d = [] := List.eq_nil_of_length_eq_zero (by omega)
      subst this
      rw [val_nil]
      have e : ((0 : Nat) : Int) * L9.pw l.length + L9.lv l = L9.lv l := by simp
      rw [e]
      refine Ev.step (f := fun k => (integer_trimmed.f k l).bind fun t120 => some (neg, t120)) (fun k => ?_) (Ev.bind (trimmed_cl l (by omega) ho) (Ev.now _))
      simp only [integer_read.l0]
      rw [if_neg (by rw [size_mkS, List.length_nil]; omega)]
    · have hat : mx 0 (wrap64 (((mkS d).size : Int) - 9)) = ((n - 9 : Nat) : Int) := by
        rw [size_mkS, hn, wrap_ok (by omega) (by omega)]
        unfold mx
        split <;> omega
      have hg1 : (mkS d).extract (n - 9) n = mkS (d.drop (n - 9)) := by rw [extract_mk, lst_mkS, List.take_of_length_le (by omega)]
      have hg0 : (mkS d).extract 0 (n - 9) = mkS (d.take (n - 9)) := by rw [extract_mk, lst_mkS, List.drop_zero]
      have hgl : (d.drop (n - 9)).length = n - (n - 9) := by rw [List.length_drop, hn]
      have hgd : allDig (d.drop (n - 9)) := fun c hc => hd c (List.mem_of_mem_drop hc)
      have hu := uint_ok (mkS (d.drop (n - 9))) (by rw [lst_mkS]; exact hgd) (by rw [lst_mkS]; intro e; have := congrArg List.length e; rw [hgl, List.length_nil] at this; omega) (by rw [lst_mkS]; omega)
      rw [lst_mkS] at hu
      have hv := val_lt _ hgd
      have hp : 10 ^ (d.drop (n - 9)).length ≤ 10 ^ 9 := Nat.pow_le_pow_right (by decide) (by omega)
      have ho2 : L9.okL (l ++ [(val 0 (d.drop (n - 9)) : Int)]) := L9.okL_mk ho (fun x hx => by rw [List.mem_singleton] at hx; subst hx; omega)
      have ih' := ih (n - 9) (by omega) (d.take (n - 9)) (by rw [List.length_take]; omega) (fun c hc => hd c (List.mem_of_mem_take hc)) (by omega) (l ++ [(val 0 (d.drop (n - 9)) : Int)]) ho2 (by rw [List.length_append, List.length_singleton]; omega)
      rw [List.length_append, List.length_singleton, ← group_step _ _ _ (by
        by_cases h9 : 9 ≤ n
        · left; omega
        · right; rw [show n - 9 = 0 by omega]; rfl), List.take_append_drop] at ih'
      refine Ev.step (fun k => ?_) ih'
      simp only [integer_read.l0]
      rw [hat, if_pos (by rw [size_mkS]; omega), if_pos (by omega), if_pos (by rw [size_mkS]; omega), Int.toNat_natCast, size_mkS, hn, hg1, hu, Option.bind_some, if_pos (by omega), hg0]
theorem read_ev (s : ByteArray) (z : Int) (hs : lst s = T z) (hz : z.natAbs < lim400) : Ev (fun k => integer_read.f k s) (decide (z < 0), L9.cl z.natAbs) := by
  have hl := (dg_len400 z.natAbs).2 hz
  have hsz : 0 < (s.size : Int) := by
    rw [size_lst, hs]
    unfold T
    have := List.length_pos_iff.2 (dg_ne z.natAbs)
    split
    · rw [List.length_cons]; omega
    · omega
  have hb : ((bt s 0) == 45) = decide (z < 0) := by
    by_cases h : z < 0
    · have e : lst s = [] ++ 45 :: dg z.natAbs := by rw [hs]; unfold T; rw [if_pos h]; rfl
      have := bt_mid e
      rw [show (((([] : Bs).length : Nat)) : Int) = 0 from rfl] at this
      rw [this, decide_eq_true h]
      rfl
    · obtain ⟨c, r, hc⟩ : ∃ c r, dg z.natAbs = c :: r := by
        cases h : dg z.natAbs with
        | nil => exact absurd h (dg_ne _)
        | cons c r => exact ⟨c, r, rfl⟩
      have e : lst s = [] ++ c :: r := by rw [hs]; unfold T; rw [if_neg h, hc]; rfl
      have := bt_mid e
      rw [show (((([] : Bs).length : Nat)) : Int) = 0 from rfl] at this
      have hcd := (isDig_nat c).1 (dg_dig z.natAbs c (by rw [hc]; simp))
      rw [this, decide_eq_false h, beq_eq_false_iff_ne]
      omega
  have h := read_loop (decide (z < 0)) _ (dg z.natAbs) rfl (dg_dig _) hl [] (fun x hx => by cases hx) (by rw [List.length_nil]; omega)
  have e : ((val 0 (dg z.natAbs) : Nat) : Int) * L9.pw ([] : List Int).length + L9.lv [] = (z.natAbs : Int) := by rw [dg_val, List.length_nil, L9.pw_zero]; simp [L9.lv]
  rw [e, Int.toNat_natCast] at h
  unfold integer_read.f
  refine Ev.congr (fun k => ?_) h
  rw [if_pos hsz, trim_prefix, Option.bind_some, hb, hs, strip_T]
end Go.Proofs.YtdnjlmoggnbknaaDoor.PInt
