--
import Derived.Test.YtdnjlmoggnbknaaDoorIi
import Derived.Test.YtdnjlmoggnbknaaDoorLimb
/- The document's integers, part one: decimal digits, the most significant one first; make0, Valid, Of, Text, agree. No condition. -/
namespace Go.Proofs.YtdnjlmoggnbknaaDoor.PInt
open Go.RowKit Go.Proofs.YtdnjlmoggnbknaaDoor.Ext Go.Proofs.YtdnjlmoggnbknaaDoorW.PrintWords Go.Proofs.YtdnjlmoggnbknaaDoor.Dec
set_option linter.unusedVariables false
set_option linter.unusedSimpArgs false

def rn (n : Nat) : List Int := (L1.cl n).reverse
def rl (l : List Int) : Int := L1.lv l.reverse
def rnum (z : Int) : Bool × List Int := (decide (z < 0), rn z.natAbs)
theorem rl_nil : rl [] = 0 := rfl
theorem rl_cons (x : Int) (r : List Int) : rl (x :: r) = rl r + L1.pw r.length * x := by unfold rl; rw [List.reverse_cons, L1.lv_snoc, List.length_reverse]
theorem rl_app (a b : List Int) : rl (a ++ b) = rl b + L1.pw b.length * rl a := by unfold rl; rw [List.reverse_append, L1.lv_app, List.length_reverse]
theorem ok_rev {l : List Int} (h : L1.okL l) : L1.okL l.reverse := fun x hx => h x (List.mem_reverse.1 hx)
theorem rl_rn (n : Nat) : rl (rn n) = n := by unfold rl rn; rw [List.reverse_reverse, L1.cl_lv]
theorem rn_ok (n : Nat) : L1.okL (rn n) := ok_rev (L1.cl_ok n)
theorem rl_nonneg {l : List Int} (h : L1.okL l) : 0 ≤ rl l := L1.lv_nonneg _ (ok_rev h)
theorem rl_lt {l : List Int} (h : L1.okL l) : rl l < L1.pw l.length := by have := L1.lv_lt _ (ok_rev h); rwa [List.length_reverse] at this
theorem rn_zero : rn 0 = [] := by unfold rn; rw [L1.cl_zero]; rfl
theorem rn_nil {n : Nat} : rn n = [] ↔ n = 0 := by unfold rn; rw [List.reverse_eq_nil_iff, L1.cl_nil]
theorem rn_len (k n : Nat) : (rn n).length ≤ k ↔ n < p10 k := by unfold rn; rw [List.length_reverse]; exact L1.cl_len k n
theorem rn_of {l : List Int} (ho : L1.okL l) (h : ∀ x r, l = x :: r → x ≠ 0) : l = rn (rl l).toNat := by
  have ht : L1.tight l.reverse := by
    intro a x hx
    have h2 := congrArg List.reverse hx
    rw [List.reverse_reverse, List.reverse_append] at h2
    exact h x a.reverse h2
  unfold rn rl
  rw [← L1.eq_cl (ok_rev ho) ht, List.reverse_reverse]
theorem rnum_zero (neg : Bool) : rnum (sg neg 0) = (false, []) := by cases neg <;> (unfold sg rnum; simp [rn_zero])
theorem rnum_sg {neg : Bool} {n : Nat} (h : n ≠ 0) : rnum (sg neg n) = (neg, rn n) := by
  unfold rnum
  rw [sg_abs]
  congr 1
  cases neg
  · exact decide_eq_false (by unfold sg; simp)
  · exact decide_eq_true (by unfold sg; simp; omega)

/-! make0 strikes leading zeros -/
theorem make0_ev (neg : Bool) : ∀ l : List Int, L1.okL l → Ev (fun k => cellarerref02_make0.f k neg l) (rnum (sg neg (rl l).toNat)) := by
  unfold cellarerref02_make0.f
  intro l
  induction l with
  | nil =>
    intro _
    rw [show (rl []).toNat = 0 from rfl, rnum_zero]
    exact Ev.step (f := fun _ => some (false, [])) (fun k => by simp only [cellarerref02_make0.l0]; rw [if_neg (by decide), if_pos (by decide)]) (Ev.now _)
  | cons x r ih =>
    intro ho
    obtain ⟨hx, hr⟩ := L1.okL_cons ho
    have hl : ((x :: r).length : Int) = r.length + 1 := by rw [List.length_cons]; omega
    have hrd : rd (x :: r) 0 = x := rd_mid (pre := []) rfl rfl
    by_cases h0 : x = 0
    · subst h0
      rw [rl_cons, Int.mul_zero, Int.add_zero]
      refine Ev.step (fun k => ?_) (ih hr)
      simp only [cellarerref02_make0.l0]
      rw [if_pos (by omega), if_pos (by omega), hrd, if_pos rfl, if_pos (by omega)]
      rfl
    · have e := rn_of ho (fun y s h => by rw [List.cons.injEq] at h; rw [← h.1]; exact h0)
      have hp := L1.pw_pos r.length
      have hv := rl_nonneg hr
      have hn : (rl (x :: r)).toNat ≠ 0 := by
        rw [rl_cons]
        have : L1.pw r.length * 1 ≤ L1.pw r.length * x := Int.mul_le_mul_of_nonneg_left (by omega) (by omega)
        omega
      rw [rnum_sg hn, ← e]
      refine Ev.step (f := fun _ => some (neg, x :: r)) (fun k => ?_) (Ev.now _)
      simp only [cellarerref02_make0.l0]
      rw [if_pos (by omega), if_pos (by omega), hrd, if_neg h0, if_neg (by omega)]

/-! Valid -/
theorem rvalid_loop (s : ByteArray) (hs : s.size ≤ 140737488351232) : ∀ (r pre : Bs), lst s = pre ++ r → Ev (fun k => cellarerref02_Valid.l0 k s (pre.length : Int)) (r.all isDig) := by
  intro r
  induction r with
  | nil =>
    intro pre h
    have hl : s.size = pre.length := by rw [size_lst, h]; simp
    refine Ev.step (f := fun _ => some true) (fun k => ?_) (Ev.now _)
    simp only [cellarerref02_Valid.l0]
    rw [if_neg (by omega)]
  | cons c r ih =>
    intro pre h
    have hl : pre.length < s.size := by rw [size_lst]; exact mid_lt h
    have hb := bt_mid h
    have ih' := ih (pre ++ [c]) (by rw [h]; simp)
    have hw : wrap64 ((pre.length : Int) + 1) = ((pre ++ [c]).length : Int) := by rw [wrap_ok (by omega) (by omega)]; simp
    rw [List.all_cons]
    by_cases hf : isDig c = true
    · have hf' := (isDig_nat c).1 hf
      rw [hf, Bool.true_and]
      refine Ev.step (f := fun k => cellarerref02_Valid.l0 k s ((pre ++ [c]).length : Int)) (fun k => ?_) ih'
      simp only [cellarerref02_Valid.l0]
      rw [if_pos (by omega), if_pos (by omega), hb, hw, if_neg (by omega), if_neg (by omega)]
    · have hf' : ¬ (48 ≤ c.toNat ∧ c.toNat ≤ 57) := fun h => hf ((isDig_nat c).2 h)
      rw [Bool.eq_false_iff.2 hf, Bool.false_and]
      refine Ev.step (f := fun _ => some false) (fun k => ?_) (Ev.now _)
      simp only [cellarerref02_Valid.l0]
      rw [if_pos (by omega), if_pos (by omega), hb]
      by_cases h1 : (c.toNat : Int) < 48
      · rw [if_pos h1]
      · rw [if_neg h1, if_pos (by omega)]
def vD : Bs → Bool
  | [] => false
  | c :: r => decide ((c :: r).length ≤ 400) && !(c == 48) && (c :: r).all isDig
theorem vB_vD (l : Bs) : vB l = (l == [48] || vD (strip l)) := by unfold vB; cases strip l <;> rfl
theorem rvalid1 (l : Bs) (hs : l.length ≤ 140737488351232) : Ev (fun k => cellarerref02_Valid.j1 k (mkS l)) (vD l) := by
  have no : Ev (fun k => cellarerref02_Valid.j2 k (mkS l) true) false := Ev.step (f := fun _ => some false) (fun k => by simp only [cellarerref02_Valid.j2]; first | rw [if_pos rfl] | rw [if_pos trivial]) (Ev.now _)
  have hsz : ((mkS l).size : Int) = l.length := by rw [size_mkS]
  cases l with
  | nil => exact Ev.step (fun k => by simp only [cellarerref02_Valid.j1]; rw [if_pos (by rw [hsz]; decide)]) no
  | cons c r =>
    rw [List.length_cons] at hsz hs
    have e0 : ¬ (((mkS (c :: r)).size : Int) < 1) := by omega
    simp only [vD]
    by_cases h4 : (c :: r).length ≤ 400
    · have h4' := h4
      rw [List.length_cons] at h4'
      have hb : bt (mkS (c :: r)) 0 = (c.toNat : Int) := bt_mid (pre := []) (by rw [lst_mkS]; rfl)
      rw [decide_eq_true h4, Bool.true_and]
      refine Ev.step (fun k => by simp only [cellarerref02_Valid.j1]; rw [if_neg e0, if_neg (by omega), if_pos (by omega), hb]) ?_
      by_cases hc : c = 48
      · subst hc
        exact no
      · have hc' : (((c.toNat : Int)) == 48) = false := by
          rw [beq_eq_false_iff_ne]
          intro h
          exact hc (UInt8.toNat_inj.1 (by rw [show (48 : UInt8).toNat = 48 from rfl]; omega))
        rw [hc', show (!(c == 48)) = true by simp [hc], Bool.true_and]
        refine Ev.step (fun k => by simp only [cellarerref02_Valid.j2]; rw [if_neg (by decide)]) ?_
        exact rvalid_loop (mkS (c :: r)) (by rw [size_mkS, List.length_cons]; omega) (c :: r) [] (by rw [lst_mkS]; rfl)
    · rw [decide_eq_false h4, Bool.false_and, Bool.false_and]
      rw [List.length_cons] at h4
      exact Ev.step (fun k => by simp only [cellarerref02_Valid.j1]; rw [if_neg e0, if_pos (by omega)]) no
theorem rvalid_ev (s : ByteArray) (hs : s.size ≤ 140737488351232) : Ev (fun k => cellarerref02_Valid.f k s) (vB (lst s)) := by
  rw [vB_vD]
  unfold cellarerref02_Valid.f
  by_cases h0 : lst s = [48]
  · refine Ev.congr (f := fun _ => some true) (fun k => by rw [toList_lst, if_pos h0]) ?_
    rw [h0]
    exact Ev.now _
  · have h0' : (lst s == [48]) = false := by simpa using h0
    rw [h0', Bool.false_or]
    refine Ev.congr (fun k => by rw [toList_lst, if_neg h0]) ?_
    have hl : (lst s).length ≤ 140737488351232 := by rw [← size_lst]; exact hs
    have hsz := size_lst s
    cases hd : lst s with
    | nil =>
      have es : s = mkS [] := by rw [← hd, mkS_lst]
      rw [hd] at hsz
      refine Ev.congr (fun k => by rw [if_neg (by rw [hsz]; decide)]) ?_
      refine Ev.step (fun k => by simp only [cellarerref02_Valid.j0]; rw [if_neg (by decide)]) ?_
      rw [es]
      exact rvalid1 [] (by decide)
    | cons c r =>
      have es : s = mkS (c :: r) := by rw [← hd, mkS_lst]
      have hb : bt s 0 = (c.toNat : Int) := bt_mid (pre := []) hd
      rw [hd, List.length_cons] at hsz hl
      refine Ev.congr (fun k => by rw [if_pos (by omega), if_pos (by omega), hb]) ?_
      by_cases hc : c = 45
      · subst hc
        have ex : s.extract 1 s.size = mkS r := by rw [extract_mk, hd, hsz]; simp
        refine Ev.step (f := fun k => cellarerref02_Valid.j1 k (mkS r)) (fun k => ?_) (rvalid1 r (by omega))
        simp only [cellarerref02_Valid.j0]
        rw [if_pos (by decide), if_pos (by omega), ex]
      · have hc' : (((c.toNat : Int)) == 45) = false := by
          rw [beq_eq_false_iff_ne]
          intro h
          exact hc (UInt8.toNat_inj.1 (by rw [show (45 : UInt8).toNat = 45 from rfl]; omega))
        rw [hc']
        refine Ev.step (fun k => by simp only [cellarerref02_Valid.j0]; rw [if_neg (by decide)]) ?_
        rw [es, show strip (c :: r) = c :: r from if_neg hc]
        exact rvalid1 (c :: r) (by rw [List.length_cons]; omega)
end Go.Proofs.YtdnjlmoggnbknaaDoor.PInt

/- The document's integers, part two: Of, Text, Long, agree; cmp, digit, plus; Add, Neg, Sub. No condition. -/
namespace Go.Proofs.YtdnjlmoggnbknaaDoor.PInt
open Go.RowKit Go.Proofs.YtdnjlmoggnbknaaDoor.Ext Go.Proofs.YtdnjlmoggnbknaaDoorW.PrintWords Go.Proofs.YtdnjlmoggnbknaaDoor.Dec
set_option linter.unusedVariables false
set_option linter.unusedSimpArgs false

/-! Of -/
def dI (c : UInt8) : Int := (dv c : Int)
theorem pw1_nat (n : Nat) : L1.pw n = ((10 ^ n : Nat) : Int) := by unfold L1.pw; rw [Int.natCast_pow]; rfl
theorem rl_map (l : Bs) : rl (l.map dI) = (val 0 l : Int) := by
  induction l with
  | nil => rfl
  | cons c r ih =>
    rw [List.map_cons, rl_cons, ih, val_cons, List.length_map, pw1_nat, val_eq r (0 * 10 + dv c), Nat.zero_mul, Nat.zero_add, Int.natCast_add, Int.natCast_mul, Int.mul_comm, Int.add_comm]
    rfl
theorem rof_loop (s : ByteArray) (hs : s.size ≤ 1000) (neg : Bool) : ∀ (r pre : Bs), lst s = pre ++ r → allDig r → ∀ (acc : List Int), L1.okL acc → acc.length ≤ pre.length →
    Ev (fun k => cellarerref02_Of.l0 k s neg acc (pre.length : Int)) (rnum (sg neg (rl (acc ++ r.map dI)).toNat)) := by
  intro r
  induction r with
  | nil =>
    intro pre h _ acc ha hl
    have hz : s.size = pre.length := by rw [size_lst, h]; simp
    rw [List.map_nil, List.append_nil]
    refine Ev.step (f := fun k => (cellarerref02_make0.f k neg acc).bind fun bt377 => some (bt377.1, bt377.2)) (fun k => ?_) (Ev.bind (make0_ev neg acc ha) (Ev.now _))
    simp only [cellarerref02_Of.l0]
    rw [if_neg (by omega)]
  | cons c r ih =>
    intro pre h hd acc ha hl
    have hz : pre.length < s.size := by rw [size_lst]; exact mid_lt h
    have hb := bt_mid h
    have hc := dig_bounds (hd c (by simp))
    have hw : wrap64 ((pre.length : Int) + 1) = ((pre ++ [c]).length : Int) := by rw [wrap_ok (by omega) (by omega)]; simp
    have e : ((c.toNat : Int) - 48) % 256 = dI c := by unfold dI dv; omega
    have ih' := ih (pre ++ [c]) (by rw [h]; simp) (fun x hx => hd x (by simp [hx])) (acc ++ [dI c]) (L1.okL_mk ha (fun x hx => by rw [List.mem_singleton] at hx; subst hx; have := dv_lt (hd c (by simp)); unfold dI; omega)) (by simp; omega)
    rw [List.map_cons, show acc ++ dI c :: r.map dI = acc ++ [dI c] ++ r.map dI by simp]
    refine Ev.step (fun k => ?_) ih'
    simp only [cellarerref02_Of.l0]
    rw [if_pos (by omega), if_pos (by omega), hb, if_neg (by omega), if_pos (by omega), e, hw]
theorem rof_T {z : Int} (h : z.natAbs < lim400) : Ev (fun k => cellarerref02_Of.f k (mkS (T z))) (rnum z) := by
  have hsz := T_size h
  unfold cellarerref02_Of.f
  have hv : (rl ((dg z.natAbs).map dI)).toNat = z.natAbs := by rw [rl_map, dg_val, Int.toNat_natCast]
  by_cases hn : z < 0
  · have ht : T z = 45 :: dg z.natAbs := if_pos hn
    have hl : lst (mkS (T z)) = [45] ++ dg z.natAbs := by rw [lst_mkS, ht]; rfl
    have e := rof_loop (mkS (T z)) (by omega) true (dg z.natAbs) [45] hl (dg_dig _) [] (fun x hx => by simp at hx) (by simp)
    rw [List.nil_append, hv, show sg true z.natAbs = z by unfold sg; rw [if_pos rfl]; omega] at e
    have hb : bt (mkS (T z)) 0 = 45 := (bt_mid (pre := []) hl).trans rfl
    have hz : ((mkS (T z)).size : Int) = (dg z.natAbs).length + 1 := by rw [size_mkS, ht, List.length_cons]; omega
    refine Ev.step (fun k => ?_) e
    simp only [cellarerref02_Of.l0]
    rw [if_pos (by omega), if_pos (by omega), hb, if_pos rfl, wrap_ok (by omega) (by omega)]
    rfl
  · have ht : T z = dg z.natAbs := if_neg hn
    have e := rof_loop (mkS (T z)) (by omega) false (dg z.natAbs) [] (by rw [lst_mkS, ht]; rfl) (dg_dig _) [] (fun x hx => by simp at hx) (by simp)
    rw [List.nil_append, hv, show sg false z.natAbs = z by unfold sg; rw [if_neg (by decide)]; omega] at e
    exact e

/-! Text, Long, agree -/
def chI (x : Int) : UInt8 := ch x.toNat
theorem ten_digits : ∀ n < 10, (⟨#[48, 49, 50, 51, 52, 53, 54, 55, 56, 57]⟩ : ByteArray).extract n (n + 1) = mkS [ch n] := by decide +kernel
theorem mkS_app (a b : Bs) : mkS a ++ mkS b = mkS (a ++ b) := by
  apply lst_inj
  simp [lst, mkS]
theorem rtext_loop (neg : Bool) (L : List Int) (hL : L.length ≤ 100000) : ∀ (r pre : List Int), L = pre ++ r → L1.okL r → ∀ acc : Bs, acc.length ≤ pre.length + 1 →
    Ev (fun k => cellarerref02_Text.l0 k (mkS acc) (pre.length : Int) neg L) (mkS (acc ++ r.map chI)) := by
  intro r
  induction r with
  | nil =>
    intro pre h _ acc ha
    have hz : L.length = pre.length := by rw [h]; simp
    rw [List.map_nil, List.append_nil]
    refine Ev.step (f := fun _ => some (mkS acc)) (fun k => ?_) (Ev.now _)
    simp only [cellarerref02_Text.l0]
    rw [if_neg (by omega)]
  | cons x r ih =>
    intro pre h ho acc ha
    obtain ⟨hx, hr⟩ := L1.okL_cons ho
    have hz : pre.length < L.length := mid_lt h
    have hd : rd L (pre.length : Int) = x := rd_mid h rfl
    have hw : wrap64 ((pre.length : Int) + 1) = ((pre ++ [x]).length : Int) := by rw [wrap_ok (by omega) (by omega)]; simp
    have e : (⟨#[48, 49, 50, 51, 52, 53, 54, 55, 56, 57]⟩ : ByteArray).extract x.toNat (x + 1).toNat = mkS [chI x] := by
      rw [show (x + 1).toNat = x.toNat + 1 by omega]
      exact ten_digits x.toNat (by omega)
    have ih' := ih (pre ++ [x]) (by rw [h]; simp) hr (acc ++ [chI x]) (by simp; omega)
    rw [List.map_cons, show acc ++ chI x :: r.map chI = acc ++ [chI x] ++ r.map chI by simp]
    refine Ev.step (fun k => ?_) ih'
    simp only [cellarerref02_Text.l0]
    rw [if_pos (by omega), if_pos (by omega), hd, wrap_ok (i := x + 1) (by omega) (by omega), e, if_pos (by omega), if_pos (by omega), if_pos (by omega), if_pos (by rw [size_mkS, size_mkS, List.length_singleton]; omega), mkS_app, hw]
theorem rn_text : ∀ n : Nat, n ≠ 0 → (rn n).map chI = dg n := by
  intro n
  induction n using Nat.strongRecOn with
  | _ n ih =>
    intro h
    have hc : rn n = rn (n / 10) ++ [((n % 10 : Nat) : Int)] := by unfold rn; rw [L1.cl_pos h, List.reverse_cons]
    rw [hc, List.map_append, List.map_cons, List.map_nil]
    by_cases hs : n < 10
    · rw [show n / 10 = 0 by omega, rn_zero, dg_small hs, show n % 10 = n by omega]
      rfl
    · rw [ih (n / 10) (by omega) (by omega), dg_big hs]
      rfl
theorem rtext_ev (z : Int) (h : z.natAbs < p10 1000) : Ev (fun k => cellarerref02_Text.f k (rnum z).1 (rnum z).2) (mkS (T z)) := by
  unfold cellarerref02_Text.f
  have hl := (rn_len 1000 z.natAbs).2 h
  have e2 : ((rnum z).2.length : Int) = (rn z.natAbs).length := rfl
  have go : ∀ acc : Bs, acc.length ≤ 1 → Ev (fun k => cellarerref02_Text.j0 k (mkS acc) (rnum z).1 (rnum z).2) (mkS (acc ++ (rn z.natAbs).map chI)) := fun acc ha =>
    Ev.step (fun k => by simp only [cellarerref02_Text.j0]; rfl) (rtext_loop (rnum z).1 (rnum z).2 (show (rn z.natAbs).length ≤ 100000 by omega) (rn z.natAbs) [] rfl (rn_ok _) acc ha)
  by_cases h0 : z = 0
  · subst h0
    rw [T_zero]
    exact Ev.congr (fun k => if_pos (by rw [show (rnum 0).2 = [] from rn_zero]; rfl)) (Ev.now _)
  · have hne : rn z.natAbs ≠ [] := fun h => h0 (by have := rn_nil.1 h; omega)
    have hlen : ¬ (((rnum z).2.length : Int) = 0) := by
      intro h
      exact hne (List.eq_nil_of_length_eq_zero (by rw [e2] at h; omega))
    refine Ev.congr (fun k => if_neg hlen) ?_
    by_cases hn : z < 0
    · have ht : T z = [45] ++ (rn z.natAbs).map chI := by rw [rn_text _ (by omega)]; exact if_pos hn
      rw [ht]
      exact Ev.congr (fun k => if_pos (decide_eq_true hn)) (go [45] (by decide))
    · have ht : T z = [] ++ (rn z.natAbs).map chI := by rw [rn_text _ (by omega)]; exact if_neg hn
      rw [ht]
      exact Ev.congr (fun k => if_neg (by unfold rnum; simpa using hn)) (go [] (by decide))
theorem agree_ev (z : Int) (h : z.natAbs < p10 1000) : Ev (fun k => cellarerlaw02_agree.f k (res z).1 (res z).2 (rnum z).1 (rnum z).2) true := by
  unfold cellarerlaw02_agree.f cellarerref02_Long.f
  have hl := rn_len 400 z.natAbs
  have e2 : ((rnum z).2.length : Int) = (rn z.natAbs).length := rfl
  by_cases hs : z.natAbs < lim400
  · have hd : decide (((rnum z).2.length : Int) > 400) = false := decide_eq_false (by have := hl.2 hs; rw [e2]; omega)
    rw [res_lt hs, hd]
    refine Ev.congr (fun k => by rw [Option.bind_some, if_neg (by decide)]) (Ev.bind (rtext_ev z h) ?_)
    exact Ev.congr (f := fun _ => some true) (fun k => if_pos rfl) (Ev.now _)
  · have hd : decide (((rnum z).2.length : Int) > 400) = true := decide_eq_true (by
      have : ¬ (rn z.natAbs).length ≤ 400 := fun h => hs (hl.1 h)
      rw [e2]
      omega)
    have er : res z = (mkS [], 5) := if_neg hs
    rw [er, hd]
    exact Ev.congr (f := fun _ => some true) (fun k => by rw [Option.bind_some, if_pos rfl, toList_lst, lst_mkS, if_pos rfl]; rfl) (Ev.now _)
end Go.Proofs.YtdnjlmoggnbknaaDoor.PInt

/- The document's integers, part three: cmp, digit, plus; Add, Neg, Sub. No condition. -/
namespace Go.Proofs.YtdnjlmoggnbknaaDoor.PInt
open Go.RowKit Go.Proofs.YtdnjlmoggnbknaaDoor.Ext Go.Proofs.YtdnjlmoggnbknaaDoorW.PrintWords Go.Proofs.YtdnjlmoggnbknaaDoor.Dec
set_option linter.unusedVariables false
set_option linter.unusedSimpArgs false

theorem cmpI_lt {x y : Int} (h : x < y) : cmpI x y = -1 := if_pos h
theorem cmpI_gt {x y : Int} (h : y < x) : cmpI x y = 1 := by unfold cmpI; rw [if_neg (by omega), if_pos h]
theorem cmpI_eq (x : Int) : cmpI x x = 0 := by unfold cmpI; rw [if_neg (by omega), if_neg (by omega)]
theorem rl_top {x y : Int} {r s : List Int} (hr : L1.okL r) (hs : L1.okL s) (h : r.length = s.length) (hxy : x < y) : rl (x :: r) < rl (y :: s) := by
  rw [rl_cons, rl_cons, h]
  have h1 := rl_lt hr
  have h2 := rl_nonneg hs
  have hp := L1.pw_pos s.length
  have h3 := Int.mul_le_mul_of_nonneg_left (show x + 1 ≤ y by omega) (show 0 ≤ L1.pw s.length by omega)
  rw [Int.mul_add, Int.mul_one] at h3
  rw [h] at h1
  omega
theorem rcmp_loop (A B : List Int) (hAB : A.length = B.length) (hl : A.length ≤ 100000) : ∀ (r s p q : List Int), A = p ++ r → B = q ++ s → p.length = q.length → L1.okL r → L1.okL s →
    Ev (fun k => cellarerref02_cmp.l0 k A B (p.length : Int)) (cmpI (rl r) (rl s)) := by
  intro r
  induction r with
  | nil =>
    intro s p q hA hB hpq _ _
    have h1 : A.length = p.length := by rw [hA]; simp
    have h2 : B.length = q.length + s.length := by rw [hB]; simp
    have : s = [] := List.eq_nil_of_length_eq_zero (by omega)
    subst this
    rw [cmpI_eq]
    refine Ev.step (f := fun _ => some 0) (fun k => ?_) (Ev.now _)
    simp only [cellarerref02_cmp.l0]
    rw [if_neg (by omega)]
  | cons x r ih =>
    intro s p q hA hB hpq hr hs
    have h1 : A.length = p.length + (r.length + 1) := by rw [hA]; simp
    have h2 : B.length = q.length + s.length := by rw [hB]; simp
    cases s with
    | nil => rw [List.length_nil] at h2; omega
    | cons y s =>
      rw [List.length_cons] at h2
      have hx : rd A (p.length : Int) = x := rd_mid hA rfl
      have hy : rd B (p.length : Int) = y := rd_mid hB (by omega)
      obtain ⟨_, hr'⟩ := L1.okL_cons hr
      obtain ⟨_, hs'⟩ := L1.okL_cons hs
      by_cases hlt : x < y
      · rw [cmpI_lt (rl_top hr' hs' (by omega) hlt)]
        refine Ev.step (f := fun _ => some (-1)) (fun k => ?_) (Ev.now _)
        simp only [cellarerref02_cmp.l0]
        rw [if_pos (by omega), if_pos (by omega), if_pos (by omega), hx, hy, if_pos hlt]
      · by_cases hgt : y < x
        · rw [cmpI_gt (rl_top hs' hr' (by omega) hgt)]
          refine Ev.step (f := fun _ => some 1) (fun k => ?_) (Ev.now _)
          simp only [cellarerref02_cmp.l0]
          rw [if_pos (by omega), if_pos (by omega), if_pos (by omega), hx, hy, if_neg hlt, if_pos hgt]
        · have hxy : x = y := by omega
          subst hxy
          have e : cmpI (rl (x :: r)) (rl (x :: s)) = cmpI (rl r) (rl s) := by
            rw [rl_cons, rl_cons, show r.length = s.length by omega]
            generalize L1.pw s.length * x = v
            unfold cmpI
            have a1 : (rl r + v < rl s + v) = (rl r < rl s) := propext (by omega)
            have a2 : (rl s + v < rl r + v) = (rl s < rl r) := propext (by omega)
            simp only [a1, a2]
          rw [e]
          have hw : wrap64 ((p.length : Int) + 1) = ((p ++ [x]).length : Int) := by rw [wrap_ok (by omega) (by omega)]; simp
          refine Ev.step (fun k => ?_) (ih s (p ++ [x]) (q ++ [x]) (by rw [hA]; simp) (by rw [hB]; simp) (by simp [hpq]) hr' hs')
          simp only [cellarerref02_cmp.l0]
          rw [if_pos (by omega), if_pos (by omega), if_pos (by omega), hx, hy, if_neg hlt, if_neg hgt, hw]
theorem rn_lt_len {a b : Nat} (h : (rn a).length < (rn b).length) : (a : Int) < b := by
  unfold rn at h
  rw [List.length_reverse, List.length_reverse] at h
  have := L1.lt_of_len (L1.cl_ok a) (L1.cl_ok b) (L1.cl_tight b) h
  rwa [L1.cl_lv, L1.cl_lv] at this
theorem rcmp_ev (a b : Nat) (ha : a < p10 1000) : Ev (fun k => cellarerref02_cmp.f k (rn a) (rn b)) (cmpI a b) := by
  unfold cellarerref02_cmp.f
  have h1 := (rn_len 1000 a).2 ha
  by_cases he : (rn a).length = (rn b).length
  · have e := rcmp_loop (rn a) (rn b) he (by omega) (rn a) (rn b) [] [] rfl rfl rfl (rn_ok a) (rn_ok b)
    rw [rl_rn, rl_rn] at e
    exact Ev.congr (fun k => if_pos (by omega)) e
  · refine Ev.congr (fun k => if_neg (by omega)) ?_
    by_cases hlt : (rn a).length < (rn b).length
    · rw [cmpI_lt (rn_lt_len hlt)]
      exact Ev.congr (fun k => if_pos (by omega)) (Ev.now _)
    · rw [cmpI_gt (rn_lt_len (a := b) (b := a) (by omega))]
      exact Ev.congr (fun k => if_neg (by omega)) (Ev.now _)

/-! digit and plus -/
theorem rdigit (l : List Int) (i : Nat) (hl : l.length ≤ 100000) (hi : i ≤ 200000) : cellarerref02_digit.f l (i : Int) = some (l.reverse.getD i 0) := by
  unfold cellarerref02_digit.f
  by_cases h : (i : Int) ≥ l.length
  · rw [if_pos h, List.getD_eq_getElem?_getD, List.getElem?_eq_none (by rw [List.length_reverse]; omega)]
    rfl
  · rw [if_neg h, wrap_ok (i := (l.length : Int) - 1) (by omega) (by omega), wrap_ok (by omega) (by omega), if_pos (by omega), if_pos (by omega)]
    congr 1
    have e : ((l.length : Int) - 1 - i).toNat = l.length - 1 - i := by omega
    unfold rd
    rw [e, List.getD_eq_getElem?_getD, List.getD_eq_getElem?_getD, List.getElem?_reverse (by omega)]
theorem getD_ok {l : List Int} (h : L1.okL l) (i : Nat) : 0 ≤ l.getD i 0 ∧ l.getD i 0 < 10 := by
  by_cases hi : i < l.length
  · rw [List.getD_eq_getElem?_getD, List.getElem?_eq_getElem hi, Option.getD_some]
    exact h _ (List.getElem_mem hi)
  · rw [List.getD_eq_getElem?_getD, List.getElem?_eq_none (by omega)]
    exact ⟨by decide, by decide⟩
theorem lv_take_getD (l : List Int) (i : Nat) : L1.lv (l.take (i + 1)) = L1.lv (l.take i) + L1.pw i * l.getD i 0 := by
  by_cases hi : i < l.length
  · rw [L1.lv_take_succ l i hi, List.getD_eq_getElem?_getD, List.getElem?_eq_getElem hi, Option.getD_some]
  · rw [List.take_of_length_le (by omega), List.take_of_length_le (by omega), List.getD_eq_getElem?_getD, List.getElem?_eq_none (by omega), Option.getD_none, Int.mul_zero, Int.add_zero]
theorem rplus_step (A B acc : List Int) (f c a b : Int) (i : Nat) (hf : f = 1 ∨ f = -1) (ha : 0 ≤ a ∧ a < 10) (hb : 0 ≤ b ∧ b < 10) (hA : cellarerref02_digit.f A (i : Int) = some a) (hB : cellarerref02_digit.f B (i : Int) = some b)
    (c1 : f = 1 → 0 ≤ c ∧ c ≤ 1) (c2 : f = -1 → -1 ≤ c ∧ c ≤ 0) (hl : acc.length ≤ 1000000) (hi : i ≤ 1000000) :
    ∃ d c' : Int, 0 ≤ d ∧ d < 10 ∧ a + f * b + c = d + 10 * c' ∧ (f = 1 → 0 ≤ c' ∧ c' ≤ 1) ∧ (f = -1 → -1 ≤ c' ∧ c' ≤ 0) ∧ ∀ k, cellarerref02_plus.j1 (k + 1) A B f acc c (i : Int) true = cellarerref02_plus.l0 k A B f (d :: acc) c' ((i + 1 : Nat) : Int) := by
  have hfb : (f = 1 → f * b = b) ∧ (f = -1 → f * b = -b) := ⟨fun h => by rw [h, Int.one_mul], fun h => by rw [h, Int.neg_one_mul]⟩
  have hr : -9 ≤ f * b ∧ f * b ≤ 9 := by
    rcases hf with h | h
    · have := hfb.1 h; omega
    · have := hfb.2 h; omega
  have hw1 : wrap64 (f * b) = f * b := wrap_ok (by omega) (by omega)
  have hw2 : wrap64 (a + f * b) = a + f * b := wrap_ok (by omega) (by omega)
  have hb1 : -10 ≤ a + f * b + c ∧ a + f * b + c ≤ 19 ∧ (f = -1 → a + f * b + c ≤ 9) ∧ (f = 1 → 0 ≤ a + f * b + c) := by
    rcases hf with h | h
    · have := hfb.1 h; have := c1 h; omega
    · have := hfb.2 h; have := c2 h; omega
  have hw3 : wrap64 (a + f * b + c) = a + f * b + c := wrap_ok (by omega) (by omega)
  have hw4 : wrap64 ((i : Int) + 1) = ((i + 1 : Nat) : Int) := by rw [wrap_ok (by omega) (by omega)]; omega
  generalize hT : a + f * b + c = t at hb1 hw3
  have red : ∀ k, cellarerref02_plus.j1 (k + 1) A B f acc c (i : Int) true = (if t < 0 then (cellarerref02_plus.l0 k A B f ([t + 10] ++ acc) (-1) ((i + 1 : Nat) : Int)) else (if t > 9 then (cellarerref02_plus.l0 k A B f ([t - 10] ++ acc) 1 ((i + 1 : Nat) : Int)) else (cellarerref02_plus.l0 k A B f ([t] ++ acc) 0 ((i + 1 : Nat) : Int)))) := by
    intro k
    simp only [cellarerref02_plus.j1]
    rw [if_pos trivial, hA, Option.bind_some, hB, Option.bind_some, hw1, hw2, hT, hw3, hw4]
    by_cases h0 : t < 0
    · rw [if_pos h0, if_pos h0, wrap_ok (i := t + 10) (by omega) (by omega), if_neg (by omega), Option.bind_some, if_pos (by rw [List.length_singleton]; omega)]
    · rw [if_neg h0, if_neg h0]
      by_cases h9 : t > 9
      · rw [if_pos h9, if_pos h9, wrap_ok (i := t - 10) (by omega) (by omega), Option.bind_some, if_pos (by rw [List.length_singleton]; omega)]
      · rw [if_neg h9, if_neg h9, Option.bind_some, if_pos (by rw [List.length_singleton]; omega)]
  by_cases h0 : t < 0
  · exact ⟨t + 10, -1, by omega, by omega, by omega, fun h => by have := hb1.2.2.2 h; omega, fun h => by omega, fun k => by rw [red k, if_pos h0]; rfl⟩
  · by_cases h9 : t > 9
    · exact ⟨t - 10, 1, by omega, by omega, by omega, fun h => by omega, fun h => by have := hb1.2.2.1 h; omega, fun k => by rw [red k, if_neg h0, if_pos h9]; rfl⟩
    · exact ⟨t, 0, by omega, by omega, by omega, fun h => by omega, fun h => by omega, fun k => by rw [red k, if_neg h0, if_neg h9]; rfl⟩
theorem rplus_loop (A B : List Int) (f V : Int) (M : Nat) (hf : f = 1 ∨ f = -1) (hA : A.length ≤ M) (hB : B.length ≤ M) (hM : M ≤ 100000) (oA : L1.okL A) (oB : L1.okL B) (hV : V = rl A + f * rl B) (h0 : 0 ≤ V) :
    ∀ (n i : Nat) (acc : List Int) (c : Int), n + i = M + 1 → acc.length = i → L1.okL acc → (f = 1 → 0 ≤ c ∧ c ≤ 1) → (f = -1 → -1 ≤ c ∧ c ≤ 0) → rl acc + L1.pw i * c = L1.lv (A.reverse.take i) + f * L1.lv (B.reverse.take i) →
      ∃ l, L1.okL l ∧ rl l = V ∧ l.length ≤ M + 1 ∧ Ev (fun k => cellarerref02_plus.l0 k A B f acc c (i : Int)) l := by
  have full : ∀ i, A.length ≤ i → B.length ≤ i → L1.lv (A.reverse.take i) + f * L1.lv (B.reverse.take i) = V := fun i h1 h2 => by
    rw [List.take_of_length_le (by rw [List.length_reverse]; exact h1), List.take_of_length_le (by rw [List.length_reverse]; exact h2), hV]; rfl
  have out : ∀ (i : Nat) (acc : List Int) (c : Int), i ≤ M + 1 → A.length ≤ i → B.length ≤ i → c = 0 → acc.length = i → L1.okL acc → rl acc + L1.pw i * c = V → ∃ l, L1.okL l ∧ rl l = V ∧ l.length ≤ M + 1 ∧ Ev (fun k => cellarerref02_plus.l0 k A B f acc c (i : Int)) l := by
    intro i acc c hi h1 h2 hc hl ho he
    subst hc
    rw [Int.mul_zero, Int.add_zero] at he
    refine ⟨acc, ho, he, by omega, Ev.step (f := fun k => cellarerref02_plus.j1 k A B f acc 0 (i : Int) false) (fun k => ?_) (Ev.step (f := fun _ => some acc) (fun k => ?_) (Ev.now _))⟩
    · simp only [cellarerref02_plus.l0]
      rw [if_neg (by omega), if_neg (by omega)]
      rfl
    · simp only [cellarerref02_plus.j1]
      rw [if_neg (by decide)]
  intro n
  induction n with
  | zero =>
    intro i acc c hn hl ho c1 c2 he
    rw [full i (by omega) (by omega)] at he
    have hc : c = 0 := by
      have a1 := rl_nonneg ho
      have a2 := rl_lt ho
      have b1 := rl_lt oA
      have b2 := rl_lt oB
      have m1 := L1.pw_mono hA
      have m2 := L1.pw_mono hB
      have hp := L1.pw_pos M
      have hs := L1.pw_succ M
      have hi : i = M + 1 := by omega
      subst hi
      rw [hl] at a2
      rcases hf with h | h
      · have hc := c1 h
        subst h
        rw [Int.one_mul] at hV
        by_cases h1 : c = 1
        · subst h1; rw [Int.mul_one] at he; omega
        · omega
      · have hc := c2 h
        by_cases h1 : c = -1
        · subst h1; rw [Int.mul_neg, Int.mul_one] at he; omega
        · omega
    exact out i acc c (by omega) (by omega) (by omega) hc hl ho he
  | succ n ih =>
    intro i acc c hn hl ho c1 c2 he
    by_cases hgo : i < A.length ∨ i < B.length ∨ c ≠ 0
    · obtain ⟨d, c', d0, d1, dt, k1, k2, hk⟩ := rplus_step A B acc f c (A.reverse.getD i 0) (B.reverse.getD i 0) i hf (getD_ok (ok_rev oA) i) (getD_ok (ok_rev oB) i) (rdigit A i (by omega) (by omega)) (rdigit B i (by omega) (by omega)) c1 c2 (by omega) (by omega)
      obtain ⟨l, l1, l2, l3, l4⟩ := ih (i + 1) (d :: acc) c' (by omega) (by rw [List.length_cons, hl]) (fun x hx => by
        rcases List.mem_cons.1 hx with h | h
        · subst h; exact ⟨d0, d1⟩
        · exact ho x h) k1 k2 (by
        rw [rl_cons, hl, lv_take_getD, lv_take_getD, L1.pw_succ]
        generalize A.reverse.getD i 0 = a at dt
        generalize B.reverse.getD i 0 = b at dt
        generalize L1.lv (A.reverse.take i) = u at he
        generalize L1.lv (B.reverse.take i) = v at he
        generalize L1.pw i = p at he
        have h := congrArg (p * ·) dt
        simp only [Int.mul_add] at h
        rw [Int.mul_add, Int.mul_left_comm f p b, Int.mul_assoc, Int.mul_left_comm 10 p c']
        rw [Int.mul_left_comm p 10 c'] at h
        rw [Int.mul_left_comm p 10 c']
        omega)
      refine ⟨l, l1, l2, l3, Ev.step (f := fun k => cellarerref02_plus.j1 k A B f acc c (i : Int) true) (fun k => ?_) (Ev.step hk l4)⟩
      simp only [cellarerref02_plus.l0]
      by_cases h1 : i < A.length
      · rw [if_pos (by omega)]
      · rw [if_neg (by omega)]
        by_cases h2 : i < B.length
        · rw [if_pos (by omega)]
        · rw [if_neg (by omega), show (c != 0) = true from bne_iff_ne.2 ((hgo.resolve_left h1).resolve_left h2)]
    · have h1 : A.length ≤ i := by omega
      have h2 : B.length ≤ i := by omega
      have h3 : c = 0 := by omega
      rw [full i h1 h2] at he
      exact out i acc c (by omega) h1 h2 h3 hl ho he
theorem rplus_ev (A B : List Int) (f : Int) (M : Nat) (hf : f = 1 ∨ f = -1) (hA : A.length ≤ M) (hB : B.length ≤ M) (hM : M ≤ 100000) (oA : L1.okL A) (oB : L1.okL B) (h0 : 0 ≤ rl A + f * rl B) :
    ∃ l, L1.okL l ∧ rl l = rl A + f * rl B ∧ l.length ≤ M + 1 ∧ Ev (fun k => cellarerref02_plus.f k A B f) l :=
  rplus_loop A B f _ M hf hA hB hM oA oB rfl h0 (M + 1) 0 [] 0 rfl rfl (fun x hx => by simp at hx) (fun _ => by omega) (fun _ => by omega) (by rw [List.take_zero, List.take_zero]; simp [rl, L1.lv])

/-! Add, Neg, Sub -/
theorem rneg_num (x : Int) : Ev (fun k => cellarerref02_Neg.f k (rnum x).1 (rnum x).2) (rnum (-x)) := by
  have e := make0_ev (!(decide (x < 0))) (rn x.natAbs) (rn_ok _)
  rw [rl_rn, Int.toNat_natCast, show sg (!(decide (x < 0))) x.natAbs = -x by
    unfold sg
    by_cases h : x < 0
    · rw [decide_eq_true h, if_neg (by decide)]; omega
    · rw [decide_eq_false h, if_pos (by decide)]; omega] at e
  unfold cellarerref02_Neg.f
  exact Ev.bind e (Ev.now _)
theorem radd_num (x y : Int) (hx : x.natAbs < p10 1000) (hy : y.natAbs < p10 1000) : Ev (fun k => cellarerref02_Add.f k (rnum x).1 (rnum x).2 (rnum y).1 (rnum y).2) (rnum (x + y)) := by
  have lx := (rn_len 1000 _).2 hx
  have ly := (rn_len 1000 _).2 hy
  unfold cellarerref02_Add.f
  by_cases hs : decide (x < 0) = decide (y < 0)
  · obtain ⟨l, l1, l2, _, l4⟩ := rplus_ev (rn x.natAbs) (rn y.natAbs) 1 1000 (.inl rfl) lx ly (by decide) (rn_ok _) (rn_ok _) (by rw [rl_rn, rl_rn]; omega)
    have e := make0_ev (decide (x < 0)) l l1
    rw [l2, rl_rn, rl_rn, show sg (decide (x < 0)) ((x.natAbs : Int) + 1 * (y.natAbs : Int)).toNat = x + y by
      rw [decide_eq_decide] at hs
      unfold sg
      by_cases h : x < 0
      · have := hs.1 h
        rw [if_pos (decide_eq_true h)]; omega
      · have : ¬ y < 0 := fun h' => h (hs.2 h')
        rw [if_neg (by simpa using h)]; omega] at e
    exact Ev.congr (fun k => if_pos (beq_iff_eq.2 hs)) (Ev.bind l4 (Ev.bind e (Ev.now _)))
  · refine Ev.congr (fun k => if_neg (fun h => hs (beq_iff_eq.1 h))) (Ev.bind (rcmp_ev x.natAbs y.natAbs hx) ?_)
    rw [decide_eq_decide] at hs
    by_cases hlt : x.natAbs < y.natAbs
    · obtain ⟨l, l1, l2, _, l4⟩ := rplus_ev (rn y.natAbs) (rn x.natAbs) (-1) 1000 (.inr rfl) ly lx (by decide) (rn_ok _) (rn_ok _) (by rw [rl_rn, rl_rn]; omega)
      have e := make0_ev (decide (y < 0)) l l1
      rw [l2, rl_rn, rl_rn, show sg (decide (y < 0)) ((y.natAbs : Int) + -1 * (x.natAbs : Int)).toNat = x + y by
        unfold sg
        by_cases h : y < 0
        · rw [if_pos (decide_eq_true h)]; omega
        · rw [if_neg (by simpa using h)]; omega] at e
      exact Ev.congr (fun k => if_pos (by rw [cmpI_lt (by omega)]; decide)) (Ev.bind l4 (Ev.bind e (Ev.now _)))
    · obtain ⟨l, l1, l2, _, l4⟩ := rplus_ev (rn x.natAbs) (rn y.natAbs) (-1) 1000 (.inr rfl) lx ly (by decide) (rn_ok _) (rn_ok _) (by rw [rl_rn, rl_rn]; omega)
      have e := make0_ev (decide (x < 0)) l l1
      rw [l2, rl_rn, rl_rn, show sg (decide (x < 0)) ((x.natAbs : Int) + -1 * (y.natAbs : Int)).toNat = x + y by
        unfold sg
        by_cases h : x < 0
        · rw [if_pos (decide_eq_true h)]; omega
        · rw [if_neg (by simpa using h)]; omega] at e
      exact Ev.congr (fun k => if_neg (by unfold cmpI; rw [if_neg (by omega)]; split <;> decide)) (Ev.bind l4 (Ev.bind e (Ev.now _)))
theorem rsub_num (x y : Int) (hx : x.natAbs < p10 1000) (hy : y.natAbs < p10 1000) : Ev (fun k => cellarerref02_Sub.f k (rnum x).1 (rnum x).2 (rnum y).1 (rnum y).2) (rnum (x - y)) := by
  have e := radd_num x (-y) hx (by rw [Int.natAbs_neg]; exact hy)
  rw [← Int.sub_eq_add_neg] at e
  unfold cellarerref02_Sub.f
  exact Ev.bind (rneg_num y) (Ev.bind e (Ev.now _))
end Go.Proofs.YtdnjlmoggnbknaaDoor.PInt

/- The pure law of IntegerAdds: Add and Sub agree with the document's. No condition. -/
namespace Go.Proofs.YtdnjlmoggnbknaaDoor.PInt
open Go.RowKit Go.Proofs.YtdnjlmoggnbknaaDoor.Ext Go.Proofs.YtdnjlmoggnbknaaDoorW.PrintWords Go.Proofs.YtdnjlmoggnbknaaDoor.Dec
set_option linter.unusedVariables false
set_option linter.unusedSimpArgs false

theorem wide {z : Int} (h : z.natAbs < lim400) : z.natAbs < p10 1000 := Nat.lt_of_lt_of_le h (p10_mono (k := 400) (by decide))
theorem long_ev (s t : ByteArray) : cellarerlaw02_long.f s t = some (decide ((s.size : Int) > 420 ∨ (t.size : Int) > 420)) := by
  unfold cellarerlaw02_long.f
  by_cases h : (s.size : Int) > 420
  · rw [if_pos h, decide_eq_true (.inl h)]
  · rw [if_neg h]
    congr 1
    rw [decide_eq_decide]
    exact ⟨.inr, fun h' => h'.resolve_left h⟩
end Go.Proofs.YtdnjlmoggnbknaaDoor.PInt
