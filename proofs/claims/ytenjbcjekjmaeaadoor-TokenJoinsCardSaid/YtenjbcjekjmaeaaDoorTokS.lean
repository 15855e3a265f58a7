/- The reference's next token tells what step tells. No condition but the size. -/
import Derived.Test.YtenjbcjekjmaeaaDoorTokR
namespace Go.Proofs.YtenjbcjekjmaeaaDoor.PTok
open Go.RowKit Go.Proofs.YtenjbcjekjmaeaaDoor.Ext Go.Proofs.YtenjbcjekjmaeaaDoorW.PrintWords
set_option linter.unusedVariables false
set_option linter.unusedSimpArgs false

theorem takeWhile_all (p : UInt8 → Bool) (l : Bs) : ∀ c ∈ l.takeWhile p, p c = true := by
  induction l with
  | nil => simp
  | cons d r ih =>
    intro c hc
    rw [List.takeWhile_cons] at hc
    split at hc
    · rcases List.mem_cons.1 hc with rfl | h
      · assumption
      · exact ih c h
    · simp at hc
theorem take_takeWhile (p : UInt8 → Bool) (l : Bs) : l.take (l.takeWhile p).length = l.takeWhile p := by
  induction l with
  | nil => simp
  | cons d r ih =>
    rw [List.takeWhile_cons]
    split
    · simp [ih]
    · simp
theorem step_num {c : UInt8} {r : Bs} {last : Option (Nat × Bs)} (hw : isWhite c = false) (hn : (isDash c && headIs isDash r) = false) (hd : (isDig c || (isDash c && headIs isDig r && sgn last)) = true) :
    step c r last = (if !isNum ((c :: r).take (1 + (r.takeWhile isDig).length)) then .err 0 2 else if headIs isName ((c :: r).drop (1 + (r.takeWhile isDig).length)) then .err (1 + (r.takeWhile isDig).length) 4 else .tok 3 (1 + (r.takeWhile isDig).length)) := by
  have h3 : (isName c && !isDig c && !isLow c) = false := by
    cases hc : isDig c with
    | true => simp
    | false =>
      rw [hc, Bool.false_or, Bool.and_eq_true, Bool.and_eq_true] at hd
      have : c = 45 := UInt8.toNat_inj.1 (by simpa [isDash] using hd.1.1)
      subst this
      decide
  unfold step
  rw [if_neg (by simp [hw]), if_neg (by simp [hn]), if_neg (by simp [h3]), if_pos hd]
theorem step_no {c : UInt8} {r : Bs} {last : Option (Nat × Bs)} (hw : isWhite c = false) (hn : (isDash c && headIs isDash r) = false) (hdig : isDig c = false) (hd : (isDash c && headIs isDig r && sgn last) = false) :
    step c r last = if isName c && !isLow c then (if 32 < 1 + (r.takeWhile isName).length then Step.err 0 5 else .tok (if c.toNat ≤ 90 then 2 else if kws.contains ((c :: r).take (1 + (r.takeWhile isName).length)) then 5 else 1) (1 + (r.takeWhile isName).length))
      else if isLow c && headIs isName r then .err 0 4 else match punct (c :: r) with | 0 => .err 0 4 | n + 1 => .tok 4 (n + 1) := by
  unfold step
  rw [if_neg (by simp [hw]), if_neg (by simp [hn]), hdig, hd]
  simp only [Bool.not_false, Bool.and_true, Bool.or_false, Bool.false_eq_true, if_false]
  rfl
theorem rj0_num {s : ByteArray} (hs : s.size ≤ 65536) {c : UInt8} {r pre : Bs} (h : lst s = pre ++ c :: r) (neg : Bool) (hc : if neg then c = 45 ∧ headIs isDig r = true else isDig c = true) :
    Ev (fun k => cellarerref13_next.j0 k s (pre.length : Int) (c.toNat : Int) true) (nxt pre.length (c :: r) (if !isNum ((c :: r).take (1 + (r.takeWhile isDig).length)) then .err 0 2 else if headIs isName ((c :: r).drop (1 + (r.takeWhile isDig).length)) then .err (1 + (r.takeWhile isDig).length) 4 else .tok 3 (1 + (r.takeWhile isDig).length))) := by
  have hps : s.size = pre.length + (r.length + 1) := by rw [size_lst, h]; simp
  have hle := takeWhile_len isDig r
  have hw1 : wrap64 ((pre.length : Int) + 1) = ((pre.length + 1 : Nat) : Int) := by rw [wrap_ok (by omega) (by omega)]; omega
  have htk : (c :: r).take (1 + (r.takeWhile isDig).length) = c :: r.takeWhile isDig := by
    rw [Nat.add_comm, List.take_succ_cons, take_takeWhile]
  have hrun := rrun_ev s hs true r (pre ++ [c]) (by rw [h]; simp)
  simp only [↓reduceIte, List.length_append, List.length_cons, List.length_nil, Nat.zero_add] at hrun
  have hnum : ∃ v, Ev (fun k => cellarerref13_Number64.f k (mkS (c :: r.takeWhile isDig))) (v, isNum (c :: r.takeWhile isDig)) := by
    have hall := takeWhile_all isDig r
    have hsz : (mkS (c :: r.takeWhile isDig)).size ≤ 65536 := by rw [size_lst, lst_mkS]; simp; omega
    cases neg with
    | true =>
      obtain ⟨rfl, hh⟩ := hc
      have := number64_ev (mkS (45 :: r.takeWhile isDig)) true (r.takeWhile isDig) (by simp) hall (by cases r with | nil => simp [headIs] at hh | cons d r => simp [headIs] at hh; simp [List.takeWhile_cons, hh]) hsz
      simpa using this
    | false =>
      simp only [Bool.false_eq_true, if_false] at hc
      have := number64_ev (mkS (c :: r.takeWhile isDig)) false (c :: r.takeWhile isDig) (by simp) (by intro x hx; rcases List.mem_cons.1 hx with rfl | hx; exact hc; exact hall x hx) (by simp) hsz
      simpa using this
  obtain ⟨v, hv⟩ := hnum
  rw [← htk] at hv
  rw [show pre.length + 1 + (r.takeWhile isDig).length = pre.length + (1 + (r.takeWhile isDig).length) from Nat.add_assoc _ _ _] at hrun
  clear htk
  generalize hnn : 1 + (r.takeWhile isDig).length = n at *
  refine Ev.step (f := fun k => (cellarerref13_run.f k s ((pre.length + 1 : Nat) : Int) true).bind fun t243 => (if 0 ≤ (pre.length : Int) then (if (pre.length : Int) ≤ t243 then (if t243 ≤ (s.size : Int) then ((cellarerref13_Number64.f k (s.extract (pre.length : Int).toNat (t243 : Int).toNat)).bind fun bt244 => (if bt244.2 = true then (if t243 < (s.size : Int) then (if 0 ≤ t243 then ((cellarerref13_part.f (bt s t243)).bind fun t246 => (if t246 = true then (some (0, (⟨#[]⟩ : ByteArray), 0, 0, t243, 4)) else (some (3, s.extract (pre.length : Int).toNat (t243 : Int).toNat, (pre.length : Int), t243, 0, 0)))) else (none)) else (some (3, s.extract (pre.length : Int).toNat (t243 : Int).toNat, (pre.length : Int), t243, 0, 0))) else (some (0, (⟨#[]⟩ : ByteArray), 0, 0, (pre.length : Int), 2)))) else (none)) else (none)) else (none))) (fun k => ?_) (Ev.bind hrun ?_)
  · simp only [cellarerref13_next.j0]
    rw [if_pos trivial, hw1]
  · refine Ev.congr (f := fun k => (cellarerref13_Number64.f k (mkS ((c :: r).take n))).bind fun bt244 => (if bt244.2 = true then (if ((pre.length + n : Nat) : Int) < (s.size : Int) then (if 0 ≤ ((pre.length + n : Nat) : Int) then ((cellarerref13_part.f (bt s ((pre.length + n : Nat) : Int))).bind fun t246 => (if t246 = true then (some (0, (⟨#[]⟩ : ByteArray), 0, 0, ((pre.length + n : Nat) : Int), 4)) else (some (3, mkS ((c :: r).take n), (pre.length : Int), ((pre.length + n : Nat) : Int), 0, 0)))) else (none)) else (some (3, mkS ((c :: r).take n), (pre.length : Int), ((pre.length + n : Nat) : Int), 0, 0))) else (some (0, (⟨#[]⟩ : ByteArray), 0, 0, (pre.length : Int), 2)))) (fun k => ?_) (Ev.bind hv ?_)
    · rw [if_pos (by omega), if_pos (by omega), if_pos (by omega), cut_mid h]
    · cases hi : isNum ((c :: r).take n) with
      | false =>
        refine Ev.congr (f := fun _ => some _) (fun k => ?_) (Ev.now _)
        rw [if_neg (by simp)]
        simp [nxt]
      | true =>
        simp only [Bool.not_true, Bool.false_eq_true, if_false]
        refine Ev.congr (f := fun _ => some _) (fun k => ?_) (Ev.now _)
        rw [if_pos trivial]
        cases hd : (c :: r).drop n with
        | nil =>
          have : r.length + 1 ≤ n := by simpa using List.drop_eq_nil_iff.1 hd
          rw [if_neg (by omega), if_neg (by simp [headIs])]
          simp [nxt]
        | cons d q =>
          have hlt : n < r.length + 1 := by
            have := congrArg List.length hd
            simp at this
            omega
          have hbd : bt s ((pre.length + n : Nat) : Int) = (d.toNat : Int) := by
            have := bt_mid (s := s) (pre := pre ++ (c :: r).take n) (c := d) (r := q) (by rw [List.append_assoc, ← hd, List.take_append_drop]; exact h)
            have hl : (pre ++ (c :: r).take n).length = pre.length + n := by simp; omega
            rw [hl] at this
            exact this
          rw [if_pos (by omega), if_pos (by omega), hbd, rpart_eq]
          rw [show headIs isName (d :: q) = isName d from rfl]
          simp only [Option.bind_some]
          by_cases hx : isName d = true
          · rw [if_pos hx, if_pos hx]
            simp [nxt]
          · rw [if_neg hx, if_neg hx]
            simp [nxt]
theorem rj0_no {s : ByteArray} (hs : s.size ≤ 65536) {c : UInt8} {r pre : Bs} (h : lst s = pre ++ c :: r) (hdig : isDig c = false) (st : Step)
    (hst : st = if isName c && !isLow c then (if 32 < 1 + (r.takeWhile isName).length then Step.err 0 5 else .tok (if c.toNat ≤ 90 then 2 else if kws.contains ((c :: r).take (1 + (r.takeWhile isName).length)) then 5 else 1) (1 + (r.takeWhile isName).length))
      else if isLow c && headIs isName r then .err 0 4 else match punct (c :: r) with | 0 => .err 0 4 | n + 1 => .tok 4 (n + 1)) :
    Ev (fun k => cellarerref13_next.j0 k s (pre.length : Int) (c.toNat : Int) false) (nxt pre.length (c :: r) st) := by
  have hj := rj1_ev hs h hdig (isName c && !isLow c) rfl st hst
  refine Ev.step (f := fun k => cellarerref13_next.j1 k s (pre.length : Int) (c.toNat : Int) (isName c && !isLow c)) (fun k => ?_) hj
  simp only [cellarerref13_next.j0]
  rw [if_neg (by simp), rpart_eq]
  by_cases hl : c.toNat = 95
  · rw [if_pos (by omega)]
    have : isLow c = true := by simp [isLow, hl]
    rw [this]
    simp
  · rw [if_neg (by omega)]
    have : isLow c = false := by simp [isLow, hl]
    rw [this]
    simp
theorem rnext_ev {s : ByteArray} (hs : s.size ≤ 65536) {c : UInt8} {r pre : Bs} (h : lst s = pre ++ c :: r) (hw : isWhite c = false) (hn : (isDash c && headIs isDash r) = false)
    (x : List S41) (last : Option (Nat × Bs)) (hx : lastR x = up last) (hg : goodLast last) (hl : x.length ≤ 100000) :
    Ev (fun k => cellarerref13_next.f k s (pre.length : Int) x) (nxt pre.length (c :: r) (step c r last)) := by
  have hps : s.size = pre.length + (r.length + 1) := by rw [size_lst, h]; simp
  have hw1 : wrap64 ((pre.length : Int) + 1) = ((pre.length + 1 : Nat) : Int) := by rw [wrap_ok (by omega) (by omega)]; omega
  have hb := bt_mid h
  cases hdig : isDig c with
  | true =>
    rw [step_num hw hn (by simp [hdig])]
    refine Ev.congr (fun k => ?_) (rj0_num hs h false (by simpa using hdig))
    unfold cellarerref13_next.f
    rw [if_pos (by omega), if_pos (by omega), hb, rdigit_eq, hdig]
    rfl
  | false =>
    have nosign : (isDash c && headIs isDig r && sgn last) = false → Ev (fun k => cellarerref13_next.j0 k s (pre.length : Int) (c.toNat : Int) false) (nxt pre.length (c :: r) (step c r last)) :=
      fun hd => rj0_no hs h hdig _ (step_no hw hn hdig hd)
    have head : ∀ k, cellarerref13_next.f k s (pre.length : Int) x = (if (c.toNat : Int) = 45 then (if ((pre.length + 1 : Nat) : Int) < (s.size : Int) then ((cellarerref13_digit.f (bt s ((pre.length + 1 : Nat) : Int))).bind fun t241 => (if t241 = true then ((cellarerref13_signed.f k x).bind fun t242 => (cellarerref13_next.j0 k s (pre.length : Int) (c.toNat : Int) t242)) else (cellarerref13_next.j0 k s (pre.length : Int) (c.toNat : Int) false))) else (cellarerref13_next.j0 k s (pre.length : Int) (c.toNat : Int) false)) else (cellarerref13_next.j0 k s (pre.length : Int) (c.toNat : Int) false)) := by
      intro k
      unfold cellarerref13_next.f
      rw [if_pos (by omega), if_pos (by omega), hb, rdigit_eq, hdig, hw1]
      simp only [Option.bind_some, Bool.false_eq_true, if_false]
      rw [if_pos (show (0 : Int) ≤ ((pre.length + 1 : Nat) : Int) from by omega)]
    refine Ev.congr head ?_
    by_cases h45 : c.toNat = 45
    · cases r with
      | nil =>
        refine Ev.congr (fun k => ?_) (nosign (by simp [headIs]))
        simp only [List.length_nil] at hps
        rw [if_pos (by omega), if_neg (by omega)]
      | cons d q =>
        simp only [List.length_cons] at hps
        have hbd : bt s ((pre.length + 1 : Nat) : Int) = (d.toNat : Int) := by
          have := bt_mid (s := s) (pre := pre ++ [c]) (c := d) (r := q) (by rw [h]; simp)
          simpa using this
        have hc : c = 45 := UInt8.toNat_inj.1 h45
        cases hdd : isDig d with
        | false =>
          refine Ev.congr (fun k => ?_) (nosign (by simp [headIs, hdd]))
          rw [if_pos (by omega), if_pos (by omega), hbd, rdigit_eq, hdd]
          rfl
        | true =>
          refine Ev.congr (f := fun k => (cellarerref13_signed.f k x).bind fun t242 => (cellarerref13_next.j0 k s (pre.length : Int) (c.toNat : Int) t242)) (fun k => ?_) (Ev.bind (rsigned_ev x last hx hg hl) ?_)
          · rw [if_pos (by omega), if_pos (by omega), hbd, rdigit_eq, hdd]
            rfl
          · cases hsg : sgn last with
            | true =>
              rw [step_num hw hn (by simp [isDash, h45, headIs, hdd, hsg])]
              exact rj0_num hs h true (by simp [hc, headIs, hdd])
            | false => exact nosign (by simp [hsg])
    · refine Ev.congr (fun k => ?_) (nosign (by simp [isDash, h45]))
      rw [if_neg (by omega)]
end Go.Proofs.YtenjbcjekjmaeaaDoor.PTok
