/- The document's integers, part one: decimal digits, the most significant one first; make0, Valid, Of, Text, agree. No condition. -/
import Derived.Test.YtdnjlmoggnbknaaDoorIi
import Derived.Test.YtdnjlmoggnbknaaDoorLimb
namespace Go.Proofs.YtdnjlmoggnbknaaDoor.PInt
open Go.RowKit Go.Proofs.YtdnjlmoggnbknaaDoor.Ext Go.Proofs.YtdnjlmoggnbknaaDoorW.PrintWords Go.Proofs.YtdnjlmoggnbknaaDoor.Dec
set_option linter.unusedVariables false
set_option linter.unusedSimpArgs false

def rn (n : Nat) : List Int := (L1.cl n).reverse
def rl (l : List Int) : Int := L1.lv l.reverse
def rnum (z : Int) : Bool × List Int := (decide (z < 0), rn z.natAbs)
theorem rl_nil : rl [] = 0 := rfl
theorem rl_cons (x : Int) (r : List Int) : rl (x :: r) = rl r + L1.pw r.length * x := by unfold rl; rw [List.reverse_cons, L1.lv_snoc, List.length_reverse]
theorem rl_app (a b : List Int) : rl (a ++ b) = rl b + L1.pw b.length * rl a := by unfold rl; rw [List.reverse_append, L1.lv_app, List.length_reverse]
theorem ok_rev {l : List Int} (h : L1.okL l) : L1.okL l.reverse := fun x hx => h x (List.mem_reverse.1 hx)
theorem rl_rn (n : Nat) : rl (rn n) = n := by unfold rl rn; rw [List.reverse_reverse, L1.cl_lv]
theorem rn_ok (n : Nat) : L1.okL (rn n) := ok_rev (L1.cl_ok n)
theorem rl_nonneg {l : List Int} (h : L1.okL l) : 0 ≤ rl l := L1.lv_nonneg _ (ok_rev h)
theorem rl_lt {l : List Int} (h : L1.okL l) : rl l < L1.pw l.length := by have := L1.lv_lt _ (ok_rev h); rwa [List.length_reverse] at this
theorem rn_zero : rn 0 = [] := by unfold rn; rw [L1.cl_zero]; rfl
theorem rn_nil {n : Nat} : rn n = [] ↔ n = 0 := by unfold rn; rw [List.reverse_eq_nil_iff, L1.cl_nil]
theorem rn_len (k n : Nat) : (rn n).length ≤ k ↔ n < p10 k := by unfold rn; rw [List.length_reverse]; exact L1.cl_len k n
theorem rn_of {l : List Int} (ho : L1.okL l) (h : ∀ x r, l = x :: r → x ≠ 0) : l = rn (rl l).toNat := by
  have ht : L1.tight l.reverse := by
    intro a x hx
    have h2 := congrArg List.reverse hx
    rw [List.reverse_reverse, List.reverse_append] at h2
    exact h x a.reverse h2
  unfold rn rl
  rw [← L1.eq_cl (ok_rev ho) ht, List.reverse_reverse]
theorem rnum_zero (neg : Bool) : rnum (sg neg 0) = (false, []) := by cases neg <;> (unfold sg rnum; simp [rn_zero])
theorem rnum_sg {neg : Bool} {n : Nat} (h : n ≠ 0) : rnum (sg neg n) = (neg, rn n) := by
  unfold rnum
  rw [sg_abs]
  congr 1
  cases neg
  · exact decide_eq_false (by unfold sg; simp)
  · exact decide_eq_true (by unfold sg; simp; omega)

/-! make0 strikes leading zeros -/
theorem make0_ev (neg : Bool) : ∀ l : List Int, L1.okL l → Ev (fun k => cellarerref02_make0.f k neg l) (rnum (sg neg (rl l).toNat)) := by
  unfold cellarerref02_make0.f
  intro l
  induction l with
  | nil =>
    intro _
    rw [show (rl []).toNat = 0 from rfl, rnum_zero]
    exact Ev.step (f := fun _ => some (false, [])) (fun k => by simp only [cellarerref02_make0.l0]; rw [if_neg (by decide), if_pos (by decide)]) (Ev.now _)
  | cons x r ih =>
    intro ho
    obtain ⟨hx, hr⟩ := L1.okL_cons ho
    have hl : ((x :: r).length : Int) = r.length + 1 := by rw [List.length_cons]; omega
    have hrd : rd (x :: r) 0 = x := rd_mid (pre := []) rfl rfl
    by_cases h0 : x = 0
    · subst h0
      rw [rl_cons, Int.mul_zero, Int.add_zero]
      refine Ev.step (fun k => ?_) (ih hr)
      simp only [cellarerref02_make0.l0]
      rw [if_pos (by omega), if_pos (by omega), hrd, if_pos rfl, if_pos (by omega)]
      rfl
    · have e := rn_of ho (fun y s h => by rw [List.cons.injEq] at h; rw [← h.1]; exact h0)
      have hp := L1.pw_pos r.length
      have hv := rl_nonneg hr
      have hn : (rl (x :: r)).toNat ≠ 0 := by
        rw [rl_cons]
        have : L1.pw r.length * 1 ≤ L1.pw r.length * x := Int.mul_le_mul_of_nonneg_left (by omega) (by omega)
        omega
      rw [rnum_sg hn, ← e]
      refine Ev.step (f := fun _ => some (neg, x :: r)) (fun k => ?_) (Ev.now _)
      simp only [cellarerref02_make0.l0]
      rw [if_pos (by omega), if_pos (by omega), hrd, if_neg h0, if_neg (by omega)]

/-! Valid -/
theorem rvalid_loop (s : ByteArray) (hs : s.size ≤ 140737488351232) : ∀ (r pre : Bs), lst s = pre ++ r → Ev (fun k => cellarerref02_Valid.l0 k s (pre.length : Int)) (r.all isDig) := by
  intro r
  induction r with
  | nil =>
    intro pre h
    have hl : s.size = pre.length := by rw [size_lst, h]; simp
    refine Ev.step (f := fun _ => some true) (fun k => ?_) (Ev.now _)
    simp only [cellarerref02_Valid.l0]
    rw [if_neg (by omega)]
  | cons c r ih =>
    intro pre h
    have hl : pre.length < s.size := by rw [size_lst]; exact mid_lt h
    have hb := bt_mid h
    have ih' := ih (pre ++ [c]) (by rw [h]; simp)
    have hw : wrap64 ((pre.length : Int) + 1) = ((pre ++ [c]).length : Int) := by rw [wrap_ok (by omega) (by omega)]; simp
    rw [List.all_cons]
    by_cases hf : isDig c = true
    · have hf' := (isDig_nat c).1 hf
      rw [hf, Bool.true_and]
      refine Ev.step (f := fun k => cellarerref02_Valid.l0 k s ((pre ++ [c]).length : Int)) (fun k => ?_) ih'
      simp only [cellarerref02_Valid.l0]
      rw [if_pos (by omega), if_pos (by omega), hb, hw, if_neg (by omega), if_neg (by omega)]
    · have hf' : ¬ (48 ≤ c.toNat ∧ c.toNat ≤ 57) := fun h => hf ((isDig_nat c).2 h)
      rw [Bool.eq_false_iff.2 hf, Bool.false_and]
      refine Ev.step (f := fun _ => some false) (fun k => ?_) (Ev.now _)
      simp only [cellarerref02_Valid.l0]
      rw [if_pos (by omega), if_pos (by omega), hb]
      by_cases h1 : (c.toNat : Int) < 48
      · rw [if_pos h1]
      · rw [if_neg h1, if_pos (by omega)]
def vD : Bs → Bool
  | [] => false
  | c :: r => decide ((c :: r).length ≤ 400) && !(c == 48) && (c :: r).all isDig
theorem vB_vD (l : Bs) : vB l = (l == [48] || vD (strip l)) := by unfold vB; cases strip l <;> rfl
theorem rvalid1 (l : Bs) (hs : l.length ≤ 140737488351232) : Ev (fun k => cellarerref02_Valid.j1 k (mkS l)) (vD l) := by
  have no : Ev (fun k => cellarerref02_Valid.j2 k (mkS l) true) false := Ev.step (f := fun _ => some false) (fun k => by simp only [cellarerref02_Valid.j2]; first | rw [if_pos rfl] | rw [if_pos trivial]) (Ev.now _)
  have hsz : ((mkS l).size : Int) = l.length := by rw [size_mkS]
  cases l with
  | nil => exact Ev.step (fun k => by simp only [cellarerref02_Valid.j1]; rw [if_pos (by rw [hsz]; decide)]) no
  | cons c r =>
    rw [List.length_cons] at hsz hs
    have e0 : ¬ (((mkS (c :: r)).size : Int) < 1) := by omega
    simp only [vD]
    by_cases h4 : (c :: r).length ≤ 400
    · have h4' := h4
      rw [List.length_cons] at h4'
      have hb : bt (mkS (c :: r)) 0 = (c.toNat : Int) := bt_mid (pre := []) (by rw [lst_mkS]; rfl)
      rw [decide_eq_true h4, Bool.true_and]
      refine Ev.step (fun k => by simp only [cellarerref02_Valid.j1]; rw [if_neg e0, if_neg (by omega), if_pos (by omega), hb]) ?_
      by_cases hc : c = 48
      · subst hc
        exact no
      · have hc' : (((c.toNat : Int)) == 48) = false := by
          rw [beq_eq_false_iff_ne]
          intro h
          exact hc (UInt8.toNat_inj.1 (by rw [show (48 : UInt8).toNat = 48 from rfl]; omega))
        rw [hc', show (!(c == 48)) = true by simp [hc], Bool.true_and]
        refine Ev.step (fun k => by simp only [cellarerref02_Valid.j2]; rw [if_neg (by decide)]) ?_
        exact rvalid_loop (mkS (c :: r)) (by rw [size_mkS, List.length_cons]; omega) (c :: r) [] (by rw [lst_mkS]; rfl)
    · rw [decide_eq_false h4, Bool.false_and, Bool.false_and]
      rw [List.length_cons] at h4
      exact Ev.step (fun k => by simp only [cellarerref02_Valid.j1]; rw [if_neg e0, if_pos (by omega)]) no
theorem rvalid_ev (s : ByteArray) (hs : s.size ≤ 140737488351232) : Ev (fun k => cellarerref02_Valid.f k s) (vB (lst s)) := by
  rw [vB_vD]
  unfold cellarerref02_Valid.f
  by_cases h0 : lst s = [48]
  · refine Ev.congr (f := fun _ => some true) (fun k => by rw [toList_lst, if_pos h0]) ?_
    rw [h0]
    exact Ev.now _
  · have h0' : (lst s == [48]) = false := by simpa using h0
    rw [h0', Bool.false_or]
    refine Ev.congr (fun k => by rw [toList_lst, if_neg h0]) ?_
    have hl : (lst s).length ≤ 140737488351232 := by rw [← size_lst]; exact hs
    have hsz := size_lst s
    cases hd : lst s with
    | nil =>
      have es : s = mkS [] := by rw [← hd, mkS_lst]
      rw [hd] at hsz
      refine Ev.congr (fun k => by rw [if_neg (by rw [hsz]; decide)]) ?_
      refine Ev.step (fun k => by simp only [cellarerref02_Valid.j0]; rw [if_neg (by decide)]) ?_
      rw [es]
      exact rvalid1 [] (by decide)
    | cons c r =>
      have es : s = mkS (c :: r) := by rw [← hd, mkS_lst]
      have hb : bt s 0 = (c.toNat : Int) := bt_mid (pre := []) hd
      rw [hd, List.length_cons] at hsz hl
      refine Ev.congr (fun k => by rw [if_pos (by omega), if_pos (by omega), hb]) ?_
      by_cases hc : c = 45
      · subst hc
        have ex : s.extract 1 s.size = mkS r := by rw [extract_mk, hd, hsz]; simp
        refine Ev.step (f := fun k => cellarerref02_Valid.j1 k (mkS r)) (fun k => ?_) (rvalid1 r (by omega))
        simp only [cellarerref02_Valid.j0]
        rw [if_pos (by decide), if_pos (by omega), ex]
      · have hc' : (((c.toNat : Int)) == 45) = false := by
          rw [beq_eq_false_iff_ne]
          intro h
          exact hc (UInt8.toNat_inj.1 (by rw [show (45 : UInt8).toNat = 45 from rfl]; omega))
        rw [hc']
        refine Ev.step (fun k => by simp only [cellarerref02_Valid.j0]; rw [if_neg (by decide)]) ?_
        rw [es, show strip (c :: r) = c :: r from if_neg hc]
        exact rvalid1 (c :: r) (by rw [List.length_cons]; omega)
end Go.Proofs.YtdnjlmoggnbknaaDoor.PInt
