/- The document's integers, part two: Of, Text, Long, agree; cmp, digit, plus; Add, Neg, Sub. No condition. -/
import Derived.Test.YtdnjlmoggnbknaaDoorRa
namespace Go.Proofs.YtdnjlmoggnbknaaDoor.PInt
open Go.RowKit Go.Proofs.YtdnjlmoggnbknaaDoor.Ext Go.Proofs.YtdnjlmoggnbknaaDoorW.PrintWords Go.Proofs.YtdnjlmoggnbknaaDoor.Dec
set_option linter.unusedVariables false
set_option linter.unusedSimpArgs false

/-! Of -/
def dI (c : UInt8) : Int := (dv c : Int)
theorem pw1_nat (n : Nat) : L1.pw n = ((10 ^ n : Nat) : Int) := by unfold L1.pw; rw [Int.natCast_pow]; rfl
theorem rl_map (l : Bs) : rl (l.map dI) = (val 0 l : Int) := by
  induction l with
  | nil => rfl
  | cons c r ih =>
    rw [List.map_cons, rl_cons, ih, val_cons, List.length_map, pw1_nat, val_eq r (0 * 10 + dv c), Nat.zero_mul, Nat.zero_add, Int.natCast_add, Int.natCast_mul, Int.mul_comm, Int.add_comm]
    rfl
theorem rof_loop (s : ByteArray) (hs : s.size ≤ 1000) (neg : Bool) : ∀ (r pre : Bs), lst s = pre ++ r → allDig r → ∀ (acc : List Int), L1.okL acc → acc.length ≤ pre.length →
    Ev (fun k => cellarerref02_Of.l0 k s neg acc (pre.length : Int)) (rnum (sg neg (rl (acc ++ r.map dI)).toNat)) := by
  intro r
  induction r with
  | nil =>
    intro pre h _ acc ha hl
    have hz : s.size = pre.length := by rw [size_lst, h]; simp
    rw [List.map_nil, List.append_nil]
    refine Ev.step (f := fun k => (cellarerref02_make0.f k neg acc).bind fun bt377 => some (bt377.1, bt377.2)) (fun k => ?_) (Ev.bind (make0_ev neg acc ha) (Ev.now _))
    simp only [cellarerref02_Of.l0]
    rw [if_neg (by omega)]
  | cons c r ih =>
    intro pre h hd acc ha hl
    have hz : pre.length < s.size := by rw [size_lst]; exact mid_lt h
    have hb := bt_mid h
    have hc := dig_bounds (hd c (by simp))
    have hw : wrap64 ((pre.length : Int) + 1) = ((pre ++ [c]).length : Int) := by rw [wrap_ok (by omega) (by omega)]; simp
    have e : ((c.toNat : Int) - 48) % 256 = dI c := by unfold dI dv; omega
    have ih' := ih (pre ++ [c]) (by rw [h]; simp) (fun x hx => hd x (by simp [hx])) (acc ++ [dI c]) (L1.okL_mk ha (fun x hx => by rw [List.mem_singleton] at hx; subst hx; have := dv_lt (hd c (by simp)); unfold dI; omega)) (by simp; omega)
    rw [List.map_cons, show acc ++ dI c :: r.map dI = acc ++ [dI c] ++ r.map dI by simp]
    refine Ev.step (fun k => ?_) ih'
    simp only [cellarerref02_Of.l0]
    rw [if_pos (by omega), if_pos (by omega), hb, if_neg (by omega), if_pos (by omega), e, hw]
theorem rof_T {z : Int} (h : z.natAbs < lim400) : Ev (fun k => cellarerref02_Of.f k (mkS (T z))) (rnum z) := by
  have hsz := T_size h
  unfold cellarerref02_Of.f
  have hv : (rl ((dg z.natAbs).map dI)).toNat = z.natAbs := by rw [rl_map, dg_val, Int.toNat_natCast]
  by_cases hn : z < 0
  · have ht : T z = 45 :: dg z.natAbs := if_pos hn
    have hl : lst (mkS (T z)) = [45] ++ dg z.natAbs := by rw [lst_mkS, ht]; rfl
    have e := rof_loop (mkS (T z)) (by omega) true (dg z.natAbs) [45] hl (dg_dig _) [] (fun x hx => by simp at hx) (by simp)
    rw [List.nil_append, hv, show sg true z.natAbs = z by unfold sg; rw [if_pos rfl]; omega] at e
    have hb : bt (mkS (T z)) 0 = 45 := (bt_mid (pre := []) hl).trans rfl
    have hz : ((mkS (T z)).size : Int) = (dg z.natAbs).length + 1 := by rw [size_mkS, ht, List.length_cons]; omega
    refine Ev.step (fun k => ?_) e
    simp only [cellarerref02_Of.l0]
    rw [if_pos (by omega), if_pos (by omega), hb, if_pos rfl, wrap_ok (by omega) (by omega)]
    rfl
  · have ht : T z = dg z.natAbs := if_neg hn
    have e := rof_loop (mkS (T z)) (by omega) false (dg z.natAbs) [] (by rw [lst_mkS, ht]; rfl) (dg_dig _) [] (fun x hx => by simp at hx) (by simp)
    rw [List.nil_append, hv, show sg false z.natAbs = z by unfold sg; rw [if_neg (by decide)]; omega] at e
    exact e

/-! Text, Long, agree -/
def chI (x : Int) : UInt8 := ch x.toNat
theorem ten_digits : ∀ n < 10, (⟨#[48, 49, 50, 51, 52, 53, 54, 55, 56, 57]⟩ : ByteArray).extract n (n + 1) = mkS [ch n] := by decide +kernel
theorem mkS_app (a b : Bs) : mkS a ++ mkS b = mkS (a ++ b) := by
  apply lst_inj
  simp [lst, mkS]
theorem rtext_loop (neg : Bool) (L : List Int) (hL : L.length ≤ 100000) : ∀ (r pre : List Int), L = pre ++ r → L1.okL r → ∀ acc : Bs, acc.length ≤ pre.length + 1 →
    Ev (fun k => cellarerref02_Text.l0 k (mkS acc) (pre.length : Int) neg L) (mkS (acc ++ r.map chI)) := by
  intro r
  induction r with
  | nil =>
    intro pre h _ acc ha
    have hz : L.length = pre.length := by rw [h]; simp
    rw [List.map_nil, List.append_nil]
    refine Ev.step (f := fun _ => some (mkS acc)) (fun k => ?_) (Ev.now _)
    simp only [cellarerref02_Text.l0]
    rw [if_neg (by omega)]
  | cons x r ih =>
    intro pre h ho acc ha
    obtain ⟨hx, hr⟩ := L1.okL_cons ho
    have hz : pre.length < L.length := mid_lt h
    have hd : rd L (pre.length : Int) = x := rd_mid h rfl
    have hw : wrap64 ((pre.length : Int) + 1) = ((pre ++ [x]).length : Int) := by rw [wrap_ok (by omega) (by omega)]; simp
    have e : (⟨#[48, 49, 50, 51, 52, 53, 54, 55, 56, 57]⟩ : ByteArray).extract x.toNat (x + 1).toNat = mkS [chI x] := by
      rw [show (x + 1).toNat = x.toNat + 1 by omega]
      exact ten_digits x.toNat (by omega)
    have ih' := ih (pre ++ [x]) (by rw [h]; simp) hr (acc ++ [chI x]) (by simp; omega)
    rw [List.map_cons, show acc ++ chI x :: r.map chI = acc ++ [chI x] ++ r.map chI by simp]
    refine Ev.step (fun k => ?_) ih'
    simp only [cellarerref02_Text.l0]
    rw [if_pos (by omega), if_pos (by omega), hd, wrap_ok (i := x + 1) (by omega) (by omega), e, if_pos (by omega), if_pos (by omega), if_pos (by omega), if_pos (by rw [size_mkS, size_mkS, List.length_singleton]; omega), mkS_app, hw]
theorem rn_text : ∀ n : Nat, n ≠ 0 → (rn n).map chI = dg n := by
  intro n
  induction n using Nat.strongRecOn with
  | _ n ih =>
    intro h
    have hc : rn n = rn (n / 10) ++ [((n % 10 : Nat) : Int)] := by unfold rn; rw [L1.cl_pos h, List.reverse_cons]
    rw [hc, List.map_append, List.map_cons, List.map_nil]
    by_cases hs : n < 10
    · rw [show n / 10 = 0 by omega, rn_zero, dg_small hs, show n % 10 = n by omega]
      rfl
    · rw [ih (n / 10) (by omega) (by omega), dg_big hs]
      rfl
theorem rtext_ev (z : Int) (h : z.natAbs < p10 1000) : Ev (fun k => cellarerref02_Text.f k (rnum z).1 (rnum z).2) (mkS (T z)) := by
  unfold cellarerref02_Text.f
  have hl := (rn_len 1000 z.natAbs).2 h
  have e2 : ((rnum z).2.length : Int) = (rn z.natAbs).length := rfl
  have go : ∀ acc : Bs, acc.length ≤ 1 → Ev (fun k => cellarerref02_Text.j0 k (mkS acc) (rnum z).1 (rnum z).2) (mkS (acc ++ (rn z.natAbs).map chI)) := fun acc ha =>
    Ev.step (fun k => by simp only [cellarerref02_Text.j0]; rfl) (rtext_loop (rnum z).1 (rnum z).2 (show (rn z.natAbs).length ≤ 100000 by omega) (rn z.natAbs) [] rfl (rn_ok _) acc ha)
  by_cases h0 : z = 0
  · subst h0
    rw [T_zero]
    exact Ev.congr (fun k => if_pos (by rw [show (rnum 0).2 = [] from rn_zero]; rfl)) (Ev.now _)
  · have hne : rn z.natAbs ≠ [] := fun h => h0 (by have := rn_nil.1 h; omega)
    have hlen : ¬ (((rnum z).2.length : Int) = 0) := by
      intro h
      exact hne (List.eq_nil_of_length_eq_zero (by rw [e2] at h; omega))
    refine Ev.congr (fun k => if_neg hlen) ?_
    by_cases hn : z < 0
    · have ht : T z = [45] ++ (rn z.natAbs).map chI := by rw [rn_text _ (by omega)]; exact if_pos hn
      rw [ht]
      exact Ev.congr (fun k => if_pos (decide_eq_true hn)) (go [45] (by decide))
    · have ht : T z = [] ++ (rn z.natAbs).map chI := by rw [rn_text _ (by omega)]; exact if_neg hn
      rw [ht]
      exact Ev.congr (fun k => if_neg (by unfold rnum; simpa using hn)) (go [] (by decide))
theorem agree_ev (z : Int) (h : z.natAbs < p10 1000) : Ev (fun k => cellarerlaw02_agree.f k (res z).1 (res z).2 (rnum z).1 (rnum z).2) true := by
  unfold cellarerlaw02_agree.f cellarerref02_Long.f
  have hl := rn_len 400 z.natAbs
  have e2 : ((rnum z).2.length : Int) = (rn z.natAbs).length := rfl
  by_cases hs : z.natAbs < lim400
  · have hd : decide (((rnum z).2.length : Int) > 400) = false := decide_eq_false (by have := hl.2 hs; rw [e2]; omega)
    rw [res_lt hs, hd]
    refine Ev.congr (fun k => by rw [Option.bind_some, if_neg (by decide)]) (Ev.bind (rtext_ev z h) ?_)
    exact Ev.congr (f := fun _ => some true) (fun k => if_pos rfl) (Ev.now _)
  · have hd : decide (((rnum z).2.length : Int) > 400) = true := decide_eq_true (by
      have : ¬ (rn z.natAbs).length ≤ 400 := fun h => hs (hl.1 h)
      rw [e2]
      omega)
    have er : res z = (mkS [], 5) := if_neg hs
    rw [er, hd]
    exact Ev.congr (f := fun _ => some true) (fun k => by rw [Option.bind_some, if_pos rfl, toList_lst, lst_mkS, if_pos rfl]; rfl) (Ev.now _)
end Go.Proofs.YtdnjlmoggnbknaaDoor.PInt
