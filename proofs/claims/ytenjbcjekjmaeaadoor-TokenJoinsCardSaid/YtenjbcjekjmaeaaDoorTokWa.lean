/- Small laws on the plain scan: a run and what stands behind it, the next token, a space, a source of fine bytes. No condition. -/
import Derived.Test.YtenjbcjekjmaeaaDoorTokV
import Derived.KernelRfl
namespace Go.Proofs.YtenjbcjekjmaeaaDoor.PTok
open Go.RowKit Go.Proofs.YtenjbcjekjmaeaaDoor.Ext Go.Proofs.YtenjbcjekjmaeaaDoorW.PrintWords
set_option linter.unusedVariables false
set_option linter.unusedSimpArgs false
theorem mkS_app (a b : Bs) : mkS a ++ mkS b = mkS (a ++ b) := lst_inj (by simp [lst, mkS])
theorem size_mkS (a : Bs) : (mkS a).size = a.length := by rw [size_lst, lst_mkS]
theorem tw_app (p : UInt8 → Bool) (D rest : Bs) (h : ∀ c ∈ D, p c = true) (hr : headIs p rest = false) : (D ++ rest).takeWhile p = D := by
  induction D with
  | nil =>
    cases rest with
    | nil => rfl
    | cons c r => simp [headIs] at hr; simp [hr]
  | cons c D ih =>
    rw [List.cons_append, List.takeWhile_cons, if_pos (h c (by simp)), ih (fun x hx => h x (by simp [hx]))]
theorem dig_name {c : UInt8} (h : isDig c = true) : isName c = true := by
  have := dig_bounds h
  have e : c = UInt8.ofNat c.toNat := by simp
  have : c.toNat = 48 ∨ c.toNat = 49 ∨ c.toNat = 50 ∨ c.toNat = 51 ∨ c.toNat = 52 ∨ c.toNat = 53 ∨ c.toNat = 54 ∨ c.toNat = 55 ∨ c.toNat = 56 ∨ c.toNat = 57 := by omega
  rw [e]
  rcases this with h | h | h | h | h | h | h | h | h | h <;> (rw [h]; decide)
theorem dig_not {c : UInt8} (h : isDig c = true) : isWhite c = false ∧ isDash c = false ∧ isLow c = false ∧ isFine c = true := by
  have := dig_bounds h
  simp only [isWhite, isDash, isLow, isFine, decide_eq_false_iff_not, decide_eq_true_eq]
  omega
theorem head_dig {rest : Bs} (h : headIs isName rest = false) : headIs isDig rest = false := by
  cases rest with
  | nil => rfl
  | cons c r =>
    simp only [headIs] at h ⊢
    cases hd : isDig c with
    | false => rfl
    | true => rw [dig_name hd] at h; cases h
theorem scan_tok {m p : Nat} {c : UInt8} {r : Bs} {last : Option (Nat × Bs)} {kd n : Nat} (hm : m ≠ 0) (h : step c r last = .tok kd n) : scan m p (c :: r) last = (scan (m - 1) (p + n) ((c :: r).drop n) (some (kd, (c :: r).take n))).addT ⟨kd, (c :: r).take n, p, p + n⟩ := by
  cases m with
  | zero => exact absurd rfl hm
  | succ m => simp only [scan, h, Nat.add_sub_cancel]
theorem scan_wh {m p : Nat} {c : UInt8} {r : Bs} {last : Option (Nat × Bs)} (hm : m ≠ 0) (h : step c r last = .white) : scan m p (c :: r) last = scan (m - 1) (p + 1) r last := by
  cases m with
  | zero => exact absurd rfl hm
  | succ m => simp only [scan, h, Nat.add_sub_cancel]
theorem scan_nil (m p : Nat) (last : Option (Nat × Bs)) : scan m p [] last = .ok [⟨6, [], p, p⟩] [] := by cases m <;> simp [scan]
theorem bad_fine : ∀ (l : Bs) (p : Nat), (∀ c ∈ l, isFine c = true) → bad p l = -1 := by
  intro l
  induction l with
  | nil => intro p _; rfl
  | cons c r ih =>
    intro p h
    simp only [bad]
    rw [if_pos (h c (by simp)), ih _ (fun x hx => h x (by simp [hx]))]
theorem scan_fine (s : ByteArray) (hs : s.size ≤ 65536) (hf : ∀ c ∈ lst s, isFine c = true) : Ev (fun k => token_Scan.f k s) (out [] [] (scan (lst s).length 0 (lst s) none)) := by
  have h := token_Scan_ev s hs
  rw [bad_fine _ 0 hf, if_neg (by decide)] at h
  exact h
theorem step_space (r : Bs) (last : Option (Nat × Bs)) : step 32 r last = .white := by
  have k1 : isWhite 32 = true := by decide
  unfold step
  simp only [k1]
  simp
theorem lst_app (a b : ByteArray) : lst (a ++ b) = lst a ++ lst b := by simp [lst]
end Go.Proofs.YtenjbcjekjmaeaaDoor.PTok
