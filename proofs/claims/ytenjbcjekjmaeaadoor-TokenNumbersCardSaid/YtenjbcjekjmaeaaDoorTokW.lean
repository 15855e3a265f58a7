/- The pure law of TokenNumbers: every number of 64 bits, in decimal, is one token; behind a name its sign is a token of its own. No condition. -/
import Derived.Test.YtenjbcjekjmaeaaDoorTokWa
import Derived.KernelRfl
namespace Go.Proofs.YtenjbcjekjmaeaaDoor.PTok
open Go.RowKit Go.Proofs.YtenjbcjekjmaeaaDoor.Ext Go.Proofs.YtenjbcjekjmaeaaDoorW.PrintWords
set_option linter.unusedVariables false
set_option linter.unusedSimpArgs false

theorem val_app (a b : Bs) (acc : Nat) : val acc (a ++ b) = val (val acc a) b := by simp [val, List.foldl_append]
/-- One digit. -/
theorem dec_one (m : Nat) (h : m < 10) : ∃ d : UInt8, Ev (fun k => cellarerlaw13_decimal.f k (m : Int)) (mkS [d]) ∧ isDig d = true ∧ dv d = m := by
  refine ⟨UInt8.ofNat (48 + m), ?_, ?_, ?_⟩
  · refine Ev.step (f := fun _ => some (mkS [UInt8.ofNat (48 + m)])) (fun k => ?_) (Ev.now _)
    simp only [cellarerlaw13_decimal.f]
    rw [if_neg (by omega), if_neg (by omega)]
    have e : (wrap64 (48 + (m : Int))) % 256 = ((48 + m : Nat) : Int) := by rw [wrap_ok (by omega) (by omega)]; omega
    rw [e]
    have e2 : (((48 + m : Nat) : Int)).toNat = 48 + m := by omega
    simp only [strOfNums, mkS, List.map_cons, List.map_nil, e2]
  · have : m = 0 ∨ m = 1 ∨ m = 2 ∨ m = 3 ∨ m = 4 ∨ m = 5 ∨ m = 6 ∨ m = 7 ∨ m = 8 ∨ m = 9 := by omega
    rcases this with rfl | rfl | rfl | rfl | rfl | rfl | rfl | rfl | rfl | rfl <;> rfl
  · have : m = 0 ∨ m = 1 ∨ m = 2 ∨ m = 3 ∨ m = 4 ∨ m = 5 ∨ m = 6 ∨ m = 7 ∨ m = 8 ∨ m = 9 := by omega
    rcases this with rfl | rfl | rfl | rfl | rfl | rfl | rfl | rfl | rfl | rfl <;> rfl
theorem small_ten {e : Nat} (h : e ≤ 30) : e + 2 + 1 ≤ 9223372036854775807 := by omega
/-- A number's digits. -/
theorem dec_pos : ∀ (e m : Nat), e ≤ 30 → m < 10 ^ (e + 1) → m ≤ 9223372036854775807 → ∃ D : Bs, Ev (fun k => cellarerlaw13_decimal.f k (m : Int)) (mkS D) ∧ allDig D ∧ D ≠ [] ∧ val 0 D = m ∧ D.length ≤ e + 1 := by
  intro e
  induction e with
  | zero =>
    intro m _ h _
    obtain ⟨d, h1, h2, h3⟩ := dec_one m (by simpa using h)
    exact ⟨[d], h1, fun c hc => by simp only [List.mem_singleton] at hc; subst hc; exact h2, by simp, by simp [val, h3], by simp⟩
  | succ e ih =>
    intro m he h hm
    by_cases h10 : m < 10
    · obtain ⟨d, h1, h2, h3⟩ := dec_one m h10
      exact ⟨[d], h1, fun c hc => by simp only [List.mem_singleton] at hc; subst hc; exact h2, by simp, by simp [val, h3], by simp⟩
    · obtain ⟨D, h1, h2, h3, h4, h5⟩ := ih (m / 10) (by omega) (by rw [Nat.pow_succ] at h; omega) (by omega)
      obtain ⟨d, g1, g2, g3⟩ := dec_one (m % 10) (by omega)
      refine ⟨D ++ [d], ?_, ?_, by simp, ?_, by simp; omega⟩
      · refine Ev.step (f := fun k => (cellarerlaw13_decimal.f k ((m / 10 : Nat) : Int)).bind fun t359 => ((cellarerlaw13_decimal.f k ((m % 10 : Nat) : Int)).bind fun t360 => (if t359.size + t360.size ≤ 9223372036854775807 then (some (t359 ++ t360)) else (none)))) (fun k => ?_) (Ev.bind h1 (Ev.bind g1 ?_))
        · simp only [cellarerlaw13_decimal.f]
          have e1 : Int.tdiv (m : Int) 10 = ((m / 10 : Nat) : Int) := by rw [Int.tdiv_eq_ediv_of_nonneg (by omega)]; omega
          have e2 : Int.tmod (m : Int) 10 = ((m % 10 : Nat) : Int) := by rw [Int.tmod_eq_emod_of_nonneg (by omega)]; omega
          rw [if_neg (by omega), if_pos (by omega), e1, e2, wrap_ok (by omega) (by omega)]
        · refine Ev.congr (f := fun _ => some (mkS (D ++ [d]))) (fun k => ?_) (Ev.now _)
          rw [size_mkS, size_mkS, if_pos (by simp; omega), mkS_app]
      · intro c hc
        rcases List.mem_append.1 hc with hc | hc
        · exact h2 c hc
        · simp only [List.mem_singleton] at hc; subst hc; exact g2
      · rw [val_app, h4]
        simp only [val, List.foldl_cons, List.foldl_nil, g3]
        omega
/-- A negative number's sign and digits. -/
theorem dec_neg : ∀ (e m : Nat), e ≤ 30 → 1 ≤ m → m < 10 ^ (e + 1) → m ≤ 9223372036854775808 → ∃ D : Bs, Ev (fun k => cellarerlaw13_decimal.f k (-(m : Int))) (mkS (45 :: D)) ∧ allDig D ∧ D ≠ [] ∧ val 0 D = m ∧ D.length ≤ e + 1 := by
  have one : ∀ m : Nat, 1 ≤ m → m < 10 → ∃ D : Bs, Ev (fun k => cellarerlaw13_decimal.f k (-(m : Int))) (mkS (45 :: D)) ∧ allDig D ∧ D ≠ [] ∧ val 0 D = m ∧ D.length ≤ 1 := by
    intro m h1 h10
    obtain ⟨d, g1, g2, g3⟩ := dec_one m h10
    refine ⟨[d], ?_, fun c hc => by simp only [List.mem_singleton] at hc; subst hc; exact g2, by simp, by simp [val, g3], by simp⟩
    refine Ev.step (f := fun k => (cellarerlaw13_decimal.f k (m : Int)).bind fun t356 => (if 1 + t356.size ≤ 9223372036854775807 then (some ((⟨#[45]⟩ : ByteArray) ++ t356)) else (none))) (fun k => ?_) (Ev.bind g1 ?_)
    · simp only [cellarerlaw13_decimal.f]
      have e1 : Int.tdiv (-(m : Int)) 10 = 0 := by rw [Int.neg_tdiv, Int.tdiv_eq_ediv_of_nonneg (by omega)]; omega
      rw [if_pos (by omega), e1, if_pos (by rw [wrap_ok (by omega) (by omega)]), Int.neg_neg, wrap_ok (by omega) (by omega)]
    · refine Ev.congr (f := fun _ => some (mkS (45 :: [d]))) (fun k => ?_) (Ev.now _)
      rw [size_mkS, if_pos (by simp)]
      exact congrArg some (mkS_app [45] [d])
  intro e
  induction e with
  | zero => intro m _ h1 h _; exact one m h1 (by simpa using h)
  | succ e ih =>
    intro m he h1 h hm
    by_cases h10 : m < 10
    · obtain ⟨D, a, b, c, d, f⟩ := one m h1 h10
      exact ⟨D, a, b, c, d, by omega⟩
    · obtain ⟨D, h1, h2, h3, h4, h5⟩ := ih (m / 10) (by omega) (by omega) (by rw [Nat.pow_succ] at h; omega) (by omega)
      obtain ⟨d, g1, g2, g3⟩ := dec_one (m % 10) (by omega)
      refine ⟨D ++ [d], ?_, ?_, by simp, ?_, by simp; omega⟩
      · refine Ev.step (f := fun k => (cellarerlaw13_decimal.f k (-((m / 10 : Nat) : Int))).bind fun t359 => ((cellarerlaw13_decimal.f k ((m % 10 : Nat) : Int)).bind fun t360 => (if t359.size + t360.size ≤ 9223372036854775807 then (some (t359 ++ t360)) else (none)))) (fun k => ?_) (Ev.bind h1 (Ev.bind g1 ?_))
        · simp only [cellarerlaw13_decimal.f]
          have e1 : Int.tdiv (-(m : Int)) 10 = -((m / 10 : Nat) : Int) := by rw [Int.neg_tdiv, Int.tdiv_eq_ediv_of_nonneg (by omega)]; omega
          have e2 : Int.tmod (-(m : Int)) 10 = -((m % 10 : Nat) : Int) := by rw [Int.neg_tmod, Int.tmod_eq_emod_of_nonneg (by omega)]; omega
          have w1 : wrap64 (-((m / 10 : Nat) : Int)) = -((m / 10 : Nat) : Int) := wrap_ok (by omega) (by omega)
          rw [if_pos (by omega), e1, w1, if_neg (by omega), e2, Int.neg_neg, wrap_ok (by omega) (by omega)]
        · refine Ev.congr (f := fun _ => some (mkS (45 :: (D ++ [d])))) (fun k => ?_) (Ev.now _)
          rw [size_mkS, size_mkS, if_pos (by simp; omega), mkS_app]
          simp
      · intro c hc
        rcases List.mem_append.1 hc with hc | hc
        · exact h2 c hc
        · simp only [List.mem_singleton] at hc; subst hc; exact g2
      · rw [val_app, h4]
        simp only [val, List.foldl_cons, List.foldl_nil, g3]
        omega
theorem step_pos {d : UInt8} {D' rest : Bs} {last : Option (Nat × Bs)} (hD : allDig (d :: D')) (h1 : headIs isName rest = false) : step d (D' ++ rest) last = if isNum (d :: D') then .tok 3 (D'.length + 1) else .err 0 2 := by
  have hd := hD d (by simp)
  obtain ⟨a, b, c, _⟩ := dig_not hd
  have tw := tw_app isDig D' rest (fun x hx => hD x (by simp [hx])) (head_dig h1)
  have e1 : ((d :: (D' ++ rest)).take (1 + D'.length)) = d :: D' := by rw [Nat.add_comm, List.take_succ_cons, List.take_left']; rfl
  have e2 : ((d :: (D' ++ rest)).drop (1 + D'.length)) = rest := by rw [Nat.add_comm, List.drop_succ_cons, List.drop_left']; rfl
  unfold step
  simp only [a, b, hd, tw, e1, e2, h1]
  cases isNum (d :: D') <;> simp [Nat.add_comm]
theorem step_neg {d : UInt8} {D' rest : Bs} {last : Option (Nat × Bs)} (hD : allDig (d :: D')) (h1 : headIs isName rest = false) (hs : sgn last = true) : step 45 ((d :: D') ++ rest) last = if isNum (45 :: d :: D') then .tok 3 (D'.length + 2) else .err 0 2 := by
  have hd := hD d (by simp)
  obtain ⟨a, b, c, _⟩ := dig_not hd
  have tw := tw_app isDig (d :: D') rest hD (head_dig h1)
  have e1 : ((45 :: ((d :: D') ++ rest)).take (1 + (d :: D').length)) = 45 :: d :: D' := by rw [Nat.add_comm, List.take_succ_cons, List.take_left']; rfl
  have e2 : ((45 :: ((d :: D') ++ rest)).drop (1 + (d :: D').length)) = rest := by rw [Nat.add_comm, List.drop_succ_cons, List.drop_left']; rfl
  have k1 : isWhite 45 = false := by decide
  have k2 : isDash 45 = true := by decide
  have k3 : headIs isDash ((d :: D') ++ rest) = false := b
  have k4 : isName 45 = false := by decide
  have k5 : isDig 45 = false := by decide
  have k6 : headIs isDig ((d :: D') ++ rest) = true := hd
  unfold step
  simp only [k1, k2, k3, k4, k5, k6, hs, tw, e1, e2, h1]
  cases isNum (45 :: d :: D') with
  | false => simp
  | true =>
    simp
    omega
theorem step_sub {d : UInt8} {D' : Bs} {last : Option (Nat × Bs)} (hd : isDig d = true) (hs : sgn last = false) : step 45 (d :: D') last = .tok 4 1 := by
  obtain ⟨a, b, c, _⟩ := dig_not hd
  have k1 : isWhite 45 = false := by decide
  have k3 : headIs isDash (d :: D') = false := b
  have k4 : isName 45 = false := by decide
  have k5 : isDig 45 = false := by decide
  have k7 : isLow 45 = false := by decide
  have k8 : punct (45 :: d :: D') = 1 := by
    have hb := dig_bounds hd
    have hne : d ≠ 62 := by rintro rfl; exact absurd hb.2 (by decide)
    simp [punct, twos, ones, hne]
  unfold step
  simp only [k1, k3, k4, k5, k7, k8, hs]
  simp
theorem scan_er {m p : Nat} {c : UInt8} {r : Bs} {last : Option (Nat × Bs)} {o e : Nat} (hm : m ≠ 0) (h : step c r last = .err o e) : scan m p (c :: r) last = .err (p + o) e := by
  cases m with
  | zero => exact absurd rfl hm
  | succ m => simp only [scan, h]
/-! texts -/
theorem texts_loop (l : List ByteArray) (ts : List Tk) (hl : l.length < ts.length) (h100 : l.length ≤ 100) (he : ∀ (i : Nat) (hi : i < l.length), lst l[i] = (ts[i]'(by omega)).text) : ∀ (d i : Nat), i + d = l.length → Ev (fun k => cellarerlaw13_texts.l0 k l (ts.map toS) (i : Int)) true := by
  intro d
  induction d with
  | zero =>
    intro i hi
    refine Ev.step (f := fun _ => some true) (fun k => ?_) (Ev.now _)
    simp only [cellarerlaw13_texts.l0]
    rw [if_neg (by omega)]
  | succ d ih =>
    intro i hi
    refine Ev.step (f := fun k => cellarerlaw13_texts.l0 k l (ts.map toS) ((i + 1 : Nat) : Int)) (fun k => ?_) (ih (i + 1) (by omega))
    have h1 : i < l.length := by omega
    have h2 : i < ts.length := by omega
    have e : rdOf ByteArray.empty l (i : Int) = l[i] := by simp [rdOf, h1]
    simp only [cellarerlaw13_texts.l0]
    rw [if_pos (by omega), if_pos (by omega), if_pos (by simp; omega), rdS ts i h2, e, if_pos (by rw [toList_lst, toList_lst, he i h1]; simp [toS]), wrap_p1 (by omega)]
theorem texts_ev (s : ByteArray) (hs : s.size ≤ 65536) (hf : ∀ c ∈ lst s, isFine c = true) (ts : List Tk) (ns : List (Nat × Nat)) (hr : scan (lst s).length 0 (lst s) none = .ok ts ns) (l : List ByteArray) (hl : ts.length = l.length + 1) (h100 : l.length ≤ 100)
    (he : ∀ (i : Nat) (hi : i < l.length), lst l[i] = (ts[i]'(by omega)).text) : Ev (fun k => cellarerlaw13_texts.f k s l) true := by
  unfold cellarerlaw13_texts.f
  have h := scan_fine s hs hf
  rw [hr] at h
  refine Ev.bind h ?_
  refine Ev.congr (fun k => if_pos rfl) ?_
  refine Ev.step (f := fun k => cellarerlaw13_texts.l0 k l (ts.map toS) 0) (fun k => ?_) (texts_loop l ts (by omega) h100 he l.length 0 (by omega))
  have e : (((ts.map toS).length : Int) != (wrap64 ((l.length : Int) + 1))) = false := by rw [wrap_ok (by omega) (by omega)]; simp [hl]
  show (if (((ts.map toS).length : Int) != (wrap64 ((l.length : Int) + 1))) = true then some false else cellarerlaw13_texts.l0 k l (ts.map toS) 0) = _
  rw [e, if_neg (by decide)]
/-! the four sources -/
/-- What a number's text is: digits, or a sign and digits. -/
def NumText (L : Bs) (neg : Bool) (D : Bs) : Prop := L = (if neg then 45 :: D else D) ∧ allDig D ∧ D ≠ []
theorem numText_fine {L D : Bs} {neg : Bool} (h : NumText L neg D) : ∀ c ∈ L, isFine c = true := by
  obtain ⟨rfl, hD, _⟩ := h
  intro c hc
  cases neg with
  | false => exact (dig_not (hD c (by simpa using hc))).2.2.2
  | true =>
    simp only [if_true, List.mem_cons] at hc
    rcases hc with rfl | hc
    · decide
    · exact (dig_not (hD c hc)).2.2.2
/-- A number is one token, where its sign may stand. -/
theorem scan_num {L D : Bs} {neg : Bool} (h : NumText L neg D) (hn : isNum L = true) (rest : Bs) (hr : headIs isName rest = false) (m p : Nat) (hm : m ≠ 0) (last : Option (Nat × Bs)) (hs : neg = true → sgn last = true) :
    scan m p (L ++ rest) last = (scan (m - 1) (p + L.length) rest (some (3, L))).addT ⟨3, L, p, p + L.length⟩ := by
  obtain ⟨rfl, hD, hne⟩ := h
  obtain ⟨d, D', rfl⟩ := List.exists_cons_of_ne_nil hne
  cases neg with
  | false =>
    simp only [Bool.false_eq_true, if_false] at hn ⊢
    have hst := step_pos (last := last) hD hr
    rw [hn, if_pos rfl] at hst
    rw [List.cons_append, scan_tok hm hst]
    simp [List.take_left', List.drop_left']
  | true =>
    simp only [if_true] at hn ⊢
    have hst := step_neg (last := last) hD hr (hs rfl)
    rw [hn, if_pos rfl] at hst
    rw [List.cons_append, scan_tok hm hst]
    simp [List.take_left', List.drop_left']
theorem step_f (x : UInt8) (r : Bs) (hx : isName x = false) : step 102 (x :: r) none = .tok 1 1 := by
  have k1 : isWhite 102 = false := by decide
  have k2 : isDash 102 = false := by decide
  have k4 : isName 102 = true := by decide
  have k5 : isDig 102 = false := by decide
  have k7 : isLow 102 = false := by decide
  have k8 : ¬ [102] ∈ kws := by decide
  unfold step
  simp only [k1, k2, k4, k5, k7, List.takeWhile_cons, hx]
  simp [k8]
theorem step_open (x : UInt8) (r : Bs) (last : Option (Nat × Bs)) : step 40 (x :: r) last = .tok 4 1 := by
  have k1 : isWhite 40 = false := by decide
  have k2 : isDash 40 = false := by decide
  have k4 : isName 40 = false := by decide
  have k5 : isDig 40 = false := by decide
  have k7 : isLow 40 = false := by decide
  have k8 : punct (40 :: x :: r) = 1 := by simp [punct, twos, ones]
  unfold step
  simp only [k1, k2, k4, k5, k7, k8]
  simp
theorem step_close (last : Option (Nat × Bs)) : step 41 [] last = .tok 4 1 := by
  have k1 : isWhite 41 = false := by decide
  have k2 : isDash 41 = false := by decide
  have k4 : isName 41 = false := by decide
  have k5 : isDig 41 = false := by decide
  have k7 : isLow 41 = false := by decide
  have k8 : punct [41] = 1 := by decide
  unfold step
  simp only [k1, k2, k4, k5, k7, k8]
  simp
theorem len_pos {L D : Bs} {neg : Bool} (h : NumText L neg D) : 1 ≤ L.length ∧ ∃ x L', L = x :: L' := by
  obtain ⟨rfl, _, hne⟩ := h
  obtain ⟨d, D', rfl⟩ := List.exists_cons_of_ne_nil hne
  cases neg <;> simp
theorem numA {L D : Bs} {neg : Bool} (h : NumText L neg D) (hn : isNum L = true) : scan L.length 0 L none = .ok [⟨3, L, 0, L.length⟩, ⟨6, [], L.length, L.length⟩] [] := by
  have := scan_num h hn [] rfl L.length 0 (by have := len_pos h; omega) none (fun _ => rfl)
  rw [List.append_nil, scan_nil] at this
  simpa [Res.addT] using this
theorem numB {L D : Bs} {neg : Bool} (h : NumText L neg D) (hn : isNum L = true) : ∃ a b c d e, scan (102 :: 40 :: (L ++ [41])).length 0 (102 :: 40 :: (L ++ [41])) none = .ok [⟨1, [102], 0, 1⟩, ⟨4, [40], a, b⟩, ⟨3, L, b, c⟩, ⟨4, [41], c, d⟩, ⟨6, [], d, e⟩] [] := by
  obtain ⟨hl, x, L', hx⟩ := len_pos h
  have e1 := scan_tok (m := (102 :: 40 :: (L ++ [41])).length) (p := 0) (by simp) (step_f 40 (L ++ [41]) (by decide))
  have hst := step_open x (L' ++ [41]) (some (1, [102]))
  rw [← List.cons_append, ← hx] at hst
  have e2 := scan_tok (m := (102 :: 40 :: (L ++ [41])).length - 1) (p := 1) (by simp) hst
  have e3 := scan_num h hn [41] (by decide) ((102 :: 40 :: (L ++ [41])).length - 1 - 1) 2 (by simp only [List.length_cons, List.length_append, List.length_nil]; omega) (some (4, [40])) (fun _ => by decide)
  have e4 := scan_tok (m := (102 :: 40 :: (L ++ [41])).length - 1 - 1 - 1) (p := 2 + L.length) (by simp only [List.length_cons, List.length_append, List.length_nil]; omega) (step_close (some (3, L)))
  simp only [List.drop_succ_cons, List.drop_zero, List.take_succ_cons, List.take_zero, Nat.zero_add, Nat.reduceAdd] at e1 e2 e4
  rw [scan_nil] at e4
  rw [e1, e2, e3, e4]
  exact ⟨_, _, _, _, _, rfl⟩
theorem numC {L D : Bs} {neg : Bool} (h : NumText L neg D) (hn : isNum L = true) (hneg : neg = false) : ∃ a b c, scan (102 :: 32 :: L).length 0 (102 :: 32 :: L) none = .ok [⟨1, [102], 0, 1⟩, ⟨3, L, a, b⟩, ⟨6, [], b, c⟩] [] := by
  have hl := len_pos h
  have e1 := scan_tok (m := (102 :: 32 :: L).length) (p := 0) (by simp) (step_f 32 L (by decide))
  have e2 := scan_wh (m := (102 :: 32 :: L).length - 1) (p := 1) (by simp) (step_space L (some (1, [102])))
  have e3 := scan_num h hn [] rfl ((102 :: 32 :: L).length - 1 - 1) 2 (by simp only [List.length_cons, List.length_append, List.length_nil]; omega) (some (1, [102])) (fun e => by rw [hneg] at e; cases e)
  rw [List.append_nil, scan_nil] at e3
  simp only [List.drop_succ_cons, List.drop_zero, List.take_succ_cons, List.take_zero, Nat.zero_add, Nat.reduceAdd] at e1 e2
  rw [e1, e2, e3]
  exact ⟨_, _, _, rfl⟩
theorem numD {D : Bs} (hD : allDig D) (hne : D ≠ []) : scan (102 :: 32 :: 45 :: D).length 0 (102 :: 32 :: 45 :: D) none = if isNum D then .ok [⟨1, [102], 0, 1⟩, ⟨4, [45], 2, 3⟩, ⟨3, D, 3, 3 + D.length⟩, ⟨6, [], 3 + D.length, 3 + D.length⟩] [] else .err 3 2 := by
  have hn : NumText D false D := ⟨rfl, hD, hne⟩
  have hl := len_pos hn
  obtain ⟨d, D', hd⟩ := List.exists_cons_of_ne_nil hne
  have hdd : isDig d = true := hD d (by rw [hd]; simp)
  have e1 := scan_tok (m := (102 :: 32 :: 45 :: D).length) (p := 0) (by simp) (step_f 32 (45 :: D) (by decide))
  have e2 := scan_wh (m := (102 :: 32 :: 45 :: D).length - 1) (p := 1) (by simp) (step_space (45 :: D) (some (1, [102])))
  have hst : step 45 D (some (1, [102])) = .tok 4 1 := by rw [hd]; exact step_sub hdd (by decide)
  have e3 := scan_tok (m := (102 :: 32 :: 45 :: D).length - 1 - 1) (p := 2) (by simp) hst
  simp only [List.drop_succ_cons, List.drop_zero, List.take_succ_cons, List.take_zero, Nat.zero_add, Nat.reduceAdd] at e1 e2 e3
  rw [e1, e2, e3]
  cases hnum : isNum D with
  | true =>
    have e4 := scan_num hn hnum [] rfl ((102 :: 32 :: 45 :: D).length - 1 - 1 - 1) 3 (by simp only [List.length_cons, List.length_append, List.length_nil]; omega) (some (4, [45])) (fun e => by cases e)
    rw [List.append_nil, scan_nil] at e4
    rw [e4]
    rfl
  | false =>
    have hst := step_pos (last := some (4, [45])) (rest := []) (by rw [hd] at hD; exact hD) rfl
    rw [List.append_nil, ← hd, hnum] at hst
    have e4 := scan_er (m := (102 :: 32 :: 45 :: D).length - 1 - 1 - 1) (p := 3) (by simp only [List.length_cons, List.length_append, List.length_nil]; omega) hst
    rw [← hd] at e4
    rw [e4]
    rfl
theorem lst_lit (a : List UInt8) : lst ⟨a.toArray⟩ = a := by simp [lst]
theorem TokenNumbers : cellarerlaw13_TokenNumbers.Pure := by
  intro n hwf
  have hb : -9223372036854775808 ≤ n ∧ n ≤ 9223372036854775807 := by
    have e1 : IntKind.i64.min = -9223372036854775808 := rfl
    have e2 : IntKind.i64.max = 9223372036854775807 := rfl
    simpa [Lit.wf, e1, e2] using hwf
  refine Ev.rounds (r := true) ?_
  -- the decimal text
  have hdec : ∃ (neg : Bool) (L D : Bs), NumText L neg D ∧ Ev (fun k => cellarerlaw13_decimal.f k n) (mkS L) ∧ isNum L = true ∧ L.length ≤ 30 ∧ (neg = true ↔ n < 0) ∧ (val 0 D : Int) = (if n < 0 then -n else n) := by
    by_cases hn : n < 0
    · obtain ⟨m, hm⟩ : ∃ m : Nat, n = -(m : Int) := ⟨n.natAbs, by omega⟩
      obtain ⟨D, h1, h2, h3, h4, h5⟩ := dec_neg 20 m (by omega) (by omega) (by omega) (by omega)
      refine ⟨true, 45 :: D, D, ⟨rfl, h2, h3⟩, by rw [hm]; exact h1, ?_, by simp; omega, by simp [hn], by rw [if_pos hn]; omega⟩
      rw [isNum_neg D h2 h3, h4]
      simp
      omega
    · obtain ⟨m, hm⟩ : ∃ m : Nat, n = (m : Int) := ⟨n.natAbs, by omega⟩
      obtain ⟨D, h1, h2, h3, h4, h5⟩ := dec_pos 20 m (by omega) (by omega) (by omega)
      refine ⟨false, D, D, ⟨rfl, h2, h3⟩, by rw [hm]; exact h1, ?_, by omega, by simp [hn], by rw [if_neg hn]; omega⟩
      rw [isNum_pos D h2 h3, h4]
      simp
      omega
  obtain ⟨neg, L, D, hT, hdec, hnum, hlen, hneg, hval⟩ := hdec
  have hfine := numText_fine hT
  have hsz : (mkS L).size ≤ 30 := by rw [size_mkS]; exact hlen
  unfold cellarerlaw13_TokenNumbers.f
  refine Ev.bind awake_ev (Ev.congr (fun k => if_pos rfl) (Ev.bind hdec ?_))
  -- the number alone
  have tA : Ev (fun k => cellarerlaw13_texts.f k (mkS L) [mkS L]) true := by
    refine texts_ev (mkS L) (by omega) (by rw [lst_mkS]; exact hfine) _ _ (by rw [lst_mkS]; exact numA hT hnum) _ rfl (by simp) ?_
    intro i hi
    simp only [List.length_cons, List.length_nil] at hi
    obtain rfl : i = 0 := by omega
    simp
  refine Ev.bind tA (Ev.congr (fun k => if_pos rfl) (Ev.congr (fun k => if_pos (by omega)) ?_))
  have z2 : ((⟨#[102, 40]⟩ : ByteArray) ++ mkS L).size = 2 + L.length := by rw [size_lst, lst_app, lst_mkS, List.length_append]; rfl
  refine Ev.congr (fun k => if_pos (by omega)) ?_
  -- in brackets
  have eB : lst (((⟨#[102, 40]⟩ : ByteArray) ++ mkS L) ++ (⟨#[41]⟩ : ByteArray)) = 102 :: 40 :: (L ++ [41]) := by rw [lst_app, lst_app, lst_mkS]; rfl
  obtain ⟨a, b, c, d, e, hB⟩ := numB hT hnum
  have tB : Ev (fun k => cellarerlaw13_texts.f k (((⟨#[102, 40]⟩ : ByteArray) ++ mkS L) ++ (⟨#[41]⟩ : ByteArray)) (([(⟨#[102]⟩ : ByteArray), (⟨#[40]⟩ : ByteArray), mkS L, (⟨#[41]⟩ : ByteArray)] : List ByteArray))) true := by
    refine texts_ev _ (by rw [size_lst, eB]; simp; omega) (by rw [eB]; intro x hx; simp only [List.mem_cons, List.mem_append, List.not_mem_nil, or_false] at hx; rcases hx with rfl | rfl | hx | rfl; (· decide); (· decide); (· exact hfine x hx); (· decide)) _ _ (by rw [eB]; exact hB) _ rfl (by simp) ?_
    intro i hi
    simp only [List.length_cons, List.length_nil] at hi
    have : i = 0 ∨ i = 1 ∨ i = 2 ∨ i = 3 := by omega
    rcases this with rfl | rfl | rfl | rfl
    · rfl
    · rfl
    · simp
    · rfl
  refine Ev.bind tB ?_
  have e32 : lst ((⟨#[102, 32]⟩ : ByteArray) ++ mkS L) = 102 :: 32 :: L := by rw [lst_app, lst_mkS]; rfl
  have s32 : ((⟨#[102, 32]⟩ : ByteArray) ++ mkS L).size ≤ 65536 := by rw [size_lst, e32]; simp; omega
  have f32 : ∀ x ∈ lst ((⟨#[102, 32]⟩ : ByteArray) ++ mkS L), isFine x = true := by
    rw [e32]
    intro x hx
    simp only [List.mem_cons] at hx
    rcases hx with rfl | rfl | hx
    · decide
    · decide
    · exact hfine x hx
  by_cases hn : n < 0
  · obtain rfl := hneg.2 hn
    obtain ⟨rfl, hD, hne⟩ := hT
    simp only [if_true] at *
    rw [if_pos hn] at hval
    have hd := numD hD hne
    rw [isNum_pos D hD hne] at hd
    have hsc := scan_fine _ s32 f32
    rw [e32] at hsc
    by_cases hmin : n = -9223372036854775808
    · rw [decide_eq_false (by omega), if_neg (by decide)] at hd
      rw [hd] at hsc
      refine Ev.step (f := fun k => (token_Scan.f k ((⟨#[102, 32]⟩ : ByteArray) ++ mkS (45 :: D))).bind fun bt374 => (if n = (-9223372036854775808) then (if bt374.2.2.2 = 2 then (some (bt374.2.2.1 == 3)) else (some false)) else (if 1 ≤ ((mkS (45 :: D)).size : Int) then ((cellarerlaw13_texts.f k ((⟨#[102, 32]⟩ : ByteArray) ++ mkS (45 :: D)) (([(⟨#[102]⟩ : ByteArray), (⟨#[45]⟩ : ByteArray), (mkS (45 :: D)).extract 1 (mkS (45 :: D)).size] : List ByteArray))).bind fun t385 => (some t385)) else (none)))) (fun k => ?_) (Ev.bind hsc ?_)
      · simp only [cellarerlaw13_TokenNumbers.j0]
        rw [if_neg (by simp), if_pos hn, if_pos (by omega)]
      · refine Ev.congr (f := fun _ => some true) (fun k => ?_) (Ev.now _)
        rw [if_pos hmin]
        rfl
    · rw [decide_eq_true (by omega), if_pos rfl] at hd
      rw [hd] at hsc
      have ex : (mkS (45 :: D)).extract 1 (mkS (45 :: D)).size = mkS D := by rw [extract_mk, lst_mkS, size_mkS, List.take_length]; rfl
      have tD : Ev (fun k => cellarerlaw13_texts.f k ((⟨#[102, 32]⟩ : ByteArray) ++ mkS (45 :: D)) (([(⟨#[102]⟩ : ByteArray), (⟨#[45]⟩ : ByteArray), mkS D] : List ByteArray))) true := by
        refine texts_ev _ s32 f32 _ _ (by rw [e32]; exact hd) _ rfl (by simp) ?_
        intro i hi
        simp only [List.length_cons, List.length_nil] at hi
        have : i = 0 ∨ i = 1 ∨ i = 2 := by omega
        rcases this with rfl | rfl | rfl
        · rfl
        · rfl
        · simp
      refine Ev.step (f := fun k => (token_Scan.f k ((⟨#[102, 32]⟩ : ByteArray) ++ mkS (45 :: D))).bind fun bt374 => (if n = (-9223372036854775808) then (if bt374.2.2.2 = 2 then (some (bt374.2.2.1 == 3)) else (some false)) else (if 1 ≤ ((mkS (45 :: D)).size : Int) then ((cellarerlaw13_texts.f k ((⟨#[102, 32]⟩ : ByteArray) ++ mkS (45 :: D)) (([(⟨#[102]⟩ : ByteArray), (⟨#[45]⟩ : ByteArray), (mkS (45 :: D)).extract 1 (mkS (45 :: D)).size] : List ByteArray))).bind fun t385 => (some t385)) else (none)))) (fun k => ?_) (Ev.bind hsc ?_)
      · simp only [cellarerlaw13_TokenNumbers.j0]
        rw [if_neg (by simp), if_pos hn, if_pos (by omega)]
      · refine Ev.congr (fun k => if_neg hmin) (Ev.congr (fun k => if_pos (by rw [size_mkS]; simp; omega)) ?_)
        rw [ex]
        exact Ev.bind tD (Ev.now _)
  · have hf : neg = false := by
      cases neg with
      | false => rfl
      | true => exact absurd (hneg.1 rfl) hn
    obtain ⟨a, b, c, hC⟩ := numC hT hnum hf
    have tC : Ev (fun k => cellarerlaw13_texts.f k ((⟨#[102, 32]⟩ : ByteArray) ++ mkS L) (([(⟨#[102]⟩ : ByteArray), mkS L] : List ByteArray))) true := by
      refine texts_ev _ s32 f32 _ _ (by rw [e32]; exact hC) _ rfl (by simp) ?_
      intro i hi
      simp only [List.length_cons, List.length_nil] at hi
      have : i = 0 ∨ i = 1 := by omega
      rcases this with rfl | rfl
      · rfl
      · simp
    refine Ev.step (f := fun k => (cellarerlaw13_texts.f k ((⟨#[102, 32]⟩ : ByteArray) ++ mkS L) (([(⟨#[102]⟩ : ByteArray), mkS L] : List ByteArray))).bind fun t389 => (some t389)) (fun k => ?_) (Ev.bind tC (Ev.now _))
    simp only [cellarerlaw13_TokenNumbers.j0]
    rw [if_neg (by simp), if_neg hn, if_pos (by omega)]
end Go.Proofs.YtenjbcjekjmaeaaDoor.PTok
