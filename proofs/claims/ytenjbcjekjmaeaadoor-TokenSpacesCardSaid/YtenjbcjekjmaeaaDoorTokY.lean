/- The pure law of TokenSpaces: a comment line before a token changes only ranges and adds one comment. No condition. -/
import Derived.Test.YtenjbcjekjmaeaaDoorTokX
namespace Go.Proofs.YtenjbcjekjmaeaaDoor.PTok
open Go.RowKit Go.Proofs.YtenjbcjekjmaeaaDoor.Ext Go.Proofs.YtenjbcjekjmaeaaDoorW.PrintWords
set_option linter.unusedVariables false
set_option linter.unusedSimpArgs false

/-- A token is read again where a line feed stands behind its text. -/
theorem step_lf {c : UInt8} {r : Bs} {last : Option (Nat × Bs)} {kd n : Nat} (h : step c r last = .tok kd n) (X : Bs) : step c (r.take (n - 1) ++ 10 :: X) last = .tok kd n := by
  have hn := step_tok h
  have h0 := step_again h [] (.inl rfl)
  rw [List.append_nil] at h0
  obtain ⟨h1, h2, h3⟩ := step_inv h0
  have hl : (r.take (n - 1)).length + 1 = n := by rw [List.length_take, Nat.min_eq_left (by omega)]; omega
  generalize r.take (n - 1) = A at *
  have qh : ∀ p : UInt8 → Bool, p 10 = false → headIs p (A ++ 10 :: X) = headIs p A := by
    intro p hp
    cases A with
    | nil => exact hp
    | cons x A => rfl
  have tw : ∀ p : UInt8 → Bool, p 10 = false → (A ++ 10 :: X).takeWhile p = A.takeWhile p := by
    intro p hp
    clear qh h0 h1 h2 h3 hl
    induction A with
    | nil => simp [hp]
    | cons x A ih =>
      rw [List.cons_append, List.takeWhile_cons, List.takeWhile_cons]
      split
      · rw [ih]
      · rfl
  have e1 : (c :: (A ++ 10 :: X)).take n = (c :: A).take n := by rw [← hl, List.take_succ_cons, List.take_left', List.take_succ_cons, List.take_length]; rfl
  have e2 : (c :: (A ++ 10 :: X)).drop n = 10 :: X := by rw [← hl, List.drop_succ_cons, List.drop_left']; rfl
  have d10 : isDig 10 = false := by decide
  have n10 : isName 10 = false := by decide
  refine step_mk h1 (by rw [qh isDash (by decide)]; exact h2) ?_
  rcases h3 with ⟨a, b, d, e⟩ | ⟨a, a2, b, d, e, f⟩ | ⟨a, a2, b, d, e, f⟩
  · exact .inl ⟨a, by rw [tw isName n10]; exact b, d, by rw [e1]; exact e⟩
  · exact .inr (.inl ⟨a, by rw [qh isDig d10]; exact a2, by rw [tw isDig d10]; exact b, by rw [e1]; exact d, by rw [e2]; exact n10, f⟩)
  · refine .inr (.inr ⟨a, by rw [qh isDig d10]; exact a2, by rw [qh isName n10]; exact b, ?_, e, f⟩)
    rw [← d, punct_cons, punct_cons]
    cases A with
    | nil => simp [twos]
    | cons x A => rfl
/-- A token is the same where what stands behind it begins with the same byte. -/
theorem step_same {c x : UInt8} {A B B' : Bs} {last : Option (Nat × Bs)} {kd n : Nat} (h : step c (A ++ x :: B) last = .tok kd n) (hl : A.length + 1 = n) : step c (A ++ x :: B') last = .tok kd n := by
  obtain ⟨h1, h2, h3⟩ := step_inv h
  have qh : ∀ p : UInt8 → Bool, headIs p (A ++ x :: B') = headIs p (A ++ x :: B) := by
    intro p
    cases A <;> rfl
  have tw : ∀ p : UInt8 → Bool, (A ++ x :: B).takeWhile p = A → (A ++ x :: B').takeWhile p = A := by
    intro p hp
    have hx : p x = false := by
      have : ((A ++ x :: B).takeWhile p).length = A.length := by rw [hp]
      cases hx : p x with
      | false => rfl
      | true =>
        exfalso
        have hall : ∀ y ∈ A, p y = true := by
          intro y hy
          rw [← hp] at hy
          exact takeWhile_all p _ y hy
        have : (A ++ x :: B).takeWhile p = A ++ x :: B.takeWhile p := by
          clear hp this h qh hl h1 h2 h3
          induction A with
          | nil => rw [List.nil_append, List.takeWhile_cons, if_pos hx]; rfl
          | cons y A ih => rw [List.cons_append, List.takeWhile_cons, if_pos (hall y (by simp)), ih (fun z hz => hall z (by simp [hz]))]; rfl
        rw [this] at hp
        have := congrArg List.length hp
        simp at this
    exact tw_app p A _ (fun y hy => by rw [← hp] at hy; exact takeWhile_all p _ y hy) hx
  have len : ∀ p : UInt8 → Bool, n = 1 + ((A ++ x :: B).takeWhile p).length → (A ++ x :: B).takeWhile p = A := by
    intro p hp
    have h5 := take_takeWhile p (A ++ x :: B)
    have h6 : ((A ++ x :: B).takeWhile p).length = A.length := by omega
    rw [h6, List.take_left'] at h5
    · exact h5.symm
    · rfl
  have e1 : ∀ Y : Bs, (c :: (A ++ x :: Y)).take n = c :: A := by intro Y; rw [← hl, List.take_succ_cons, List.take_left']; rfl
  have e2 : ∀ Y : Bs, (c :: (A ++ x :: Y)).drop n = x :: Y := by intro Y; rw [← hl, List.drop_succ_cons, List.drop_left']; rfl
  refine step_mk h1 (by rw [qh]; exact h2) ?_
  rcases h3 with ⟨a, b, d, e⟩ | ⟨a, a2, b, d, e, f⟩ | ⟨a, a2, b, d, e, f⟩
  · exact .inl ⟨a, by rw [tw isName (len isName b)]; omega, d, by rw [e1]; rw [e1] at e; exact e⟩
  · exact .inr (.inl ⟨a, by rw [qh]; exact a2, by rw [tw isDig (len isDig b)]; omega, by rw [e1]; rw [e1] at d; exact d, by rw [e2]; rw [e2] at e; exact e, f⟩)
  · refine .inr (.inr ⟨a, by rw [qh]; exact a2, by rw [qh]; exact b, ?_, e, f⟩)
    rw [← d, punct_cons, punct_cons]
    cases A <;> rfl
/-- A token is read again from any beginning that holds it, a line feed behind. -/
theorem step_cut {c : UInt8} {r : Bs} {last : Option (Nat × Bs)} {kd n : Nat} (h : step c r last = .tok kd n) (k : Nat) (hk : n ≤ k + 1) (hk2 : k ≤ r.length) (X : Bs) : step c (r.take k ++ 10 :: X) last = .tok kd n := by
  have hn := step_tok h
  by_cases e : k = n - 1
  · subst e
    exact step_lf h X
  · have hlt : n - 1 < r.length := by omega
    have e1 : r = r.take (n - 1) ++ r[n - 1] :: r.drop n := by
      have : r.drop (n - 1) = r[n - 1] :: r.drop n := by
        rw [List.drop_eq_getElem_cons hlt]
        congr 2
        omega
      rw [← this, List.take_append_drop]
    have e2 : r.take k ++ 10 :: X = r.take (n - 1) ++ r[n - 1] :: ((r.drop n).take (k - n) ++ 10 :: X) := by
      have h5 : r.take k = r.take (n - 1) ++ r[n - 1] :: (r.drop n).take (k - n) := by
        conv => lhs; rw [e1]
        rw [List.take_append, List.length_take, Nat.min_eq_left (by omega), List.take_of_length_le (by simp; omega)]
        obtain ⟨j, hj⟩ : ∃ j, k - (n - 1) = j + 1 := ⟨k - n, by omega⟩
        rw [hj, List.take_succ_cons]
        congr 3
        omega
      rw [h5]
      simp
    rw [e2]
    refine step_same (B := r.drop n) ?_ (by rw [List.length_take, Nat.min_eq_left (by omega)]; omega)
    rw [← e1]
    exact h
def INS : Bs := [10, 32, 45, 45, 32, 97, 32, 34, 110, 111, 116, 101, 34, 10]
theorem note_len (k : Nat) (c : UInt8) (r X : Bs) (n : Nat) (hn : n = ((c :: r).takeWhile notLf).length) (hk : n ≤ k) (hk2 : k ≤ r.length + 1) : (((c :: r).take k ++ 10 :: X).takeWhile notLf).length = n := by
  have hle := takeWhile_len notLf (c :: r)
  have h1 : (c :: r).take n = (c :: r).takeWhile notLf := by rw [hn, take_takeWhile]
  have hall : ∀ y ∈ (c :: r).take n, notLf y = true := by rw [h1]; exact takeWhile_all notLf _
  have hlen : ((c :: r).take n).length = n := by rw [List.length_take, Nat.min_eq_left (by rw [hn]; exact hle)]
  by_cases e : k = n
  · subst e
    rw [tw_app notLf _ (10 :: X) hall (show notLf 10 = false by decide), hlen]
  · have hlt : n < (c :: r).length := by simp only [List.length_cons]; omega
    have e2 : (c :: r).take k = (c :: r).take n ++ ((c :: r).drop n).take (k - n) := by
      have h4 := (List.take_append_drop n ((c :: r).take k)).symm
      rw [List.take_take, Nat.min_eq_left hk, List.drop_take] at h4
      exact h4
    have hx : notLf ((c :: r)[n]) = false := by
      have h5 : (c :: r) = (c :: r).take n ++ (c :: r)[n] :: (c :: r).drop (n + 1) := by
        rw [← List.drop_eq_getElem_cons hlt, List.take_append_drop]
      cases hx : notLf ((c :: r)[n]) with
      | false => rfl
      | true =>
        exfalso
        have h6 : ((c :: r).takeWhile notLf).length = n := hn.symm
        rw [h5, List.takeWhile_append_of_pos hall, List.takeWhile_cons, if_pos hx, List.length_append, hlen] at h6
        simp only [List.length_cons] at h6
        omega
    rw [e2, List.append_assoc, tw_app notLf _ _ hall, hlen]
    obtain ⟨j, hj⟩ : ∃ j, k - n = j + 1 := ⟨k - n - 1, by omega⟩
    rw [hj, List.drop_eq_getElem_cons hlt, List.take_succ_cons]
    exact hx
/-- Ranges 14 further on. -/
def mvT (t : Tk) : Tk := ⟨t.kd, t.text, t.a + 14, t.b + 14⟩
def mvN (n : Nat × Nat) : Nat × Nat := (n.1 + 14, n.2 + 14)
theorem scan_no {m p : Nat} {c : UInt8} {r : Bs} {last : Option (Nat × Bs)} {n : Nat} (hm : m ≠ 0) (h : step c r last = .note n) : scan m p (c :: r) last = (scan (m - 1) (p + n) ((c :: r).drop n) last).addN (p, p + n) := by
  cases m with
  | zero => exact absurd rfl hm
  | succ m => simp only [scan, h, Nat.add_sub_cancel]
theorem scan_move : ∀ (m m' p : Nat) (l : Bs) (last : Option (Nat × Bs)) (ts : List Tk) (ns : List (Nat × Nat)), scan m p l last = .ok ts ns → l.length ≤ m' → scan m' (p + 14) l last = .ok (ts.map mvT) (ns.map mvN) := by
  intro m
  induction m with
  | zero =>
    intro m' p l last ts ns h hl
    cases l with
    | nil =>
      simp only [scan, Res.ok.injEq] at h
      obtain ⟨rfl, rfl⟩ := h
      exact scan_nil _ _ _
    | cons c r => simp [scan] at h
  | succ m ih =>
    intro m' p l last ts ns h hl
    cases l with
    | nil =>
      simp only [scan, Res.ok.injEq] at h
      obtain ⟨rfl, rfl⟩ := h
      exact scan_nil _ _ _
    | cons c r =>
      simp only [List.length_cons] at hl
      simp only [scan] at h
      cases hst : step c r last with
      | white =>
        rw [hst] at h
        rw [scan_wh (by omega) hst]
        have := ih (m' - 1) _ _ _ _ _ h (by omega)
        rw [Nat.add_right_comm] at this
        exact this
      | note n =>
        rw [hst] at h
        simp only at h
        have hn := step_note2 hst
        cases hr : scan m (p + n) ((c :: r).drop n) last with
        | err o e => rw [hr] at h; simp [Res.addN] at h
        | ok ts' ns' =>
          rw [hr] at h
          simp only [Res.addN, Res.ok.injEq] at h
          obtain ⟨rfl, rfl⟩ := h
          have := ih (m' - 1) _ _ _ _ _ hr (by simp only [List.length_drop, List.length_cons]; omega)
          rw [Nat.add_right_comm] at this
          rw [scan_no (by omega) hst, this]
          simp only [Res.addN, List.map_cons, mvN, Nat.add_right_comm]
      | tok kd n =>
        rw [hst] at h
        simp only at h
        have hn := step_tok hst
        cases hr : scan m (p + n) ((c :: r).drop n) (some (kd, (c :: r).take n)) with
        | err o e => rw [hr] at h; simp [Res.addT] at h
        | ok ts' ns' =>
          rw [hr] at h
          simp only [Res.addT, Res.ok.injEq] at h
          obtain ⟨rfl, rfl⟩ := h
          have := ih (m' - 1) _ _ _ _ _ hr (by simp only [List.length_drop, List.length_cons]; omega)
          rw [Nat.add_right_comm] at this
          rw [scan_tok (by omega) hst, this]
          simp only [Res.addT, List.map_cons, mvT, Nat.add_right_comm]
      | err o e => rw [hst] at h; simp at h
theorem scan_INS (m p : Nat) (rest : Bs) (last : Option (Nat × Bs)) (hm : 4 ≤ m) : scan m p (INS ++ rest) last = (scan (m - 4) (p + 14) rest last).addN (p + 2, p + 13) := by
  have w10 : ∀ r, step 10 r last = .white := by
    intro r
    have k1 : isWhite 10 = true := by decide
    unfold step
    rw [k1]
    rfl
  have hno : step 45 ([45, 32, 97, 32, 34, 110, 111, 116, 101, 34, 10] ++ rest) last = .note 11 := by
    have k1 : isWhite 45 = false := by decide
    have k2 : isDash 45 = true := by decide
    have k3 : headIs isDash ([45, 32, 97, 32, 34, 110, 111, 116, 101, 34, 10] ++ rest) = true := show isDash 45 = true by decide
    have k4 : (45 :: ([45, 32, 97, 32, 34, 110, 111, 116, 101, 34, 10] ++ rest)).takeWhile notLf = [45, 45, 32, 97, 32, 34, 110, 111, 116, 101, 34] :=
      tw_app notLf [45, 45, 32, 97, 32, 34, 110, 111, 116, 101, 34] (10 :: rest) (by decide) (show notLf 10 = false by decide)
    unfold step
    rw [k1, k2, k3, k4]
    rfl
  have e1 := scan_wh (m := m) (p := p) (by omega) (w10 ([32, 45, 45, 32, 97, 32, 34, 110, 111, 116, 101, 34, 10] ++ rest))
  have e2 := scan_wh (m := m - 1) (p := p + 1) (by omega) (step_space ([45, 45, 32, 97, 32, 34, 110, 111, 116, 101, 34, 10] ++ rest) last)
  have e3 := scan_no (m := m - 1 - 1) (p := p + 1 + 1) (by omega) hno
  have e4 := scan_wh (m := m - 1 - 1 - 1) (p := p + 1 + 1 + 11) (by omega) (w10 rest)
  have e5 : (45 :: ([45, 32, 97, 32, 34, 110, 111, 116, 101, 34, 10] ++ rest)).drop 11 = 10 :: rest := rfl
  rw [e5] at e3
  show scan m p (10 :: ([32, 45, 45, 32, 97, 32, 34, 110, 111, 116, 101, 34, 10] ++ rest)) last = _
  rw [e1]
  show scan (m - 1) (p + 1) (32 :: ([45, 45, 32, 97, 32, 34, 110, 111, 116, 101, 34, 10] ++ rest)) last = _
  rw [e2]
  show scan (m - 1 - 1) (p + 1 + 1) (45 :: ([45, 32, 97, 32, 34, 110, 111, 116, 101, 34, 10] ++ rest)) last = _
  rw [e3, e4]
  have : m - 1 - 1 - 1 - 1 = m - 4 := by omega
  rw [this]
/-- The comment line before token j. -/
theorem scan_ins : ∀ (m : Nat) (l : Bs) (m' p : Nat) (last : Option (Nat × Bs)) (ts : List Tk) (ns : List (Nat × Nat)) (j : Nat) (hj : j < ts.length), l.length ≤ m → scan m p l last = .ok ts ns → l.length + 14 ≤ m' →
    p ≤ ts[j].a ∧ ts[j].a ≤ p + l.length ∧ ∃ ns', scan m' p (l.take (ts[j].a - p) ++ INS ++ l.drop (ts[j].a - p)) last = .ok (ts.take j ++ (ts.drop j).map mvT) ns' ∧ ns'.length = ns.length + 1 := by
  -- where the token begins here
  have here : ∀ (m : Nat) (l : Bs) (m' p : Nat) (last : Option (Nat × Bs)) (ts : List Tk) (ns : List (Nat × Nat)), scan m p l last = .ok ts ns → l.length + 14 ≤ m' → ∃ ns', scan m' p (INS ++ l) last = .ok (ts.map mvT) ns' ∧ ns'.length = ns.length + 1 := by
    intro m l m' p last ts ns h hl
    rw [scan_INS m' p l last (by omega), scan_move m (m' - 4) p l last ts ns h (by omega)]
    exact ⟨_, rfl, by simp⟩
  intro m
  induction m with
  | zero =>
    intro l m' p last ts ns j hj hl h hm'
    obtain rfl : l = [] := List.length_eq_zero_iff.1 (by omega)
    have h' := here 0 [] m' p last ts ns h hm'
    simp only [scan, Res.ok.injEq] at h
    obtain ⟨rfl, rfl⟩ := h
    simp only [List.length_singleton] at hj
    obtain rfl : j = 0 := by omega
    obtain ⟨ns', h1, h2⟩ := h'
    refine ⟨Nat.le_refl _, by simp, ns', ?_, h2⟩
    simpa using h1
  | succ m ih =>
    intro l m' p last ts ns j hj hl h hm'
    have h0 := h
    cases l with
    | nil =>
      have h' := here (m + 1) [] m' p last ts ns h hm'
      simp only [scan, Res.ok.injEq] at h
      obtain ⟨rfl, rfl⟩ := h
      simp only [List.length_singleton] at hj
      obtain rfl : j = 0 := by omega
      obtain ⟨ns', h1, h2⟩ := h'
      refine ⟨Nat.le_refl _, by simp, ns', ?_, h2⟩
      simpa using h1
    | cons c r =>
      simp only [List.length_cons] at hl hm' ⊢
      simp only [scan] at h
      cases hst : step c r last with
      | white =>
        rw [hst] at h
        obtain ⟨g1, g2, ns', g3, g4⟩ := ih r (m' - 1) (p + 1) last ts ns j hj (by omega) h (by omega)
        refine ⟨by omega, by omega, ns', ?_, g4⟩
        obtain ⟨k, hk⟩ : ∃ k, ts[j].a - p = k + 1 := ⟨ts[j].a - (p + 1), by omega⟩
        have hk' : ts[j].a - (p + 1) = k := by omega
        rw [hk'] at g3
        rw [hk, List.take_succ_cons, List.drop_succ_cons, List.cons_append, List.cons_append, scan_wh (by omega) (by
          have hw := step_white hst
          unfold step
          rw [hw, if_pos rfl])]
        exact g3
      | note n =>
        rw [hst] at h
        simp only at h
        obtain ⟨hc, ⟨r', hr'⟩, hn2, hnl⟩ := step_note2 hst
        obtain ⟨hnn, _⟩ := step_note hst
        cases hr : scan m (p + n) ((c :: r).drop n) last with
        | err o e => rw [hr] at h; simp [Res.addN] at h
        | ok ts' ns0 =>
          rw [hr] at h
          simp only [Res.addN, Res.ok.injEq] at h
          obtain ⟨rfl, rfl⟩ := h
          obtain ⟨g1, g2, ns', g3, g4⟩ := ih ((c :: r).drop n) (m' - 1) (p + n) last ts' ns0 j hj (by simp only [List.length_drop, List.length_cons]; omega) hr (by simp only [List.length_drop, List.length_cons]; omega)
          simp only [List.length_drop, List.length_cons] at g2
          refine ⟨by omega, by omega, (p, p + n) :: ns', ?_, by simp [g4]⟩
          generalize hk : ts'[j].a - p = k at *
          have hk' : ts'[j].a - (p + n) = k - n := by omega
          rw [hk'] at g3
          have hnk : n ≤ k := by omega
          have hkl : k ≤ r.length + 1 := by omega
          obtain ⟨k1, rfl⟩ : ∃ k1, k = k1 + 1 + 1 := ⟨k - 2, by omega⟩
          have hstep : step c (r.take (k1 + 1) ++ INS ++ (c :: r).drop (k1 + 1 + 1)) last = .note n := by
            have hlen := note_len (k1 + 1 + 1) c r (INS.tail ++ (c :: r).drop (k1 + 1 + 1)) n hnn hnk hkl
            have e : (c :: r).take (k1 + 1 + 1) ++ 10 :: (INS.tail ++ (c :: r).drop (k1 + 1 + 1)) = c :: (r.take (k1 + 1) ++ INS ++ (c :: r).drop (k1 + 1 + 1)) := by simp [INS]
            rw [e] at hlen
            have hw : isWhite c = false := by subst hc; decide
            have hd : isDash c = true := by subst hc; decide
            have hh : headIs isDash (r.take (k1 + 1) ++ INS ++ (c :: r).drop (k1 + 1 + 1)) = true := by
              rw [hr']
              rfl
            unfold step
            rw [hw, if_neg (by decide), hd, hh, if_pos (by decide), hlen]
          have e3 : (c :: (r.take (k1 + 1) ++ INS ++ (c :: r).drop (k1 + 1 + 1))).drop n = ((c :: r).drop n).take (k1 + 1 + 1 - n) ++ INS ++ ((c :: r).drop n).drop (k1 + 1 + 1 - n) := by
            have e4 : c :: (r.take (k1 + 1) ++ INS ++ (c :: r).drop (k1 + 1 + 1)) = (c :: r).take (k1 + 1 + 1) ++ (INS ++ (c :: r).drop (k1 + 1 + 1)) := by simp
            rw [e4, List.drop_append_of_le_length (by rw [List.length_take, Nat.min_eq_left (by simp only [List.length_cons]; omega)]; exact hnk), List.drop_take, List.drop_drop, List.append_assoc]
            congr 3
            omega
          rw [List.take_succ_cons, List.cons_append, List.cons_append, scan_no (by omega) hstep, e3, g3]
          rfl
      | tok kd n =>
        rw [hst] at h
        simp only at h
        have hn := step_tok hst
        cases hr : scan m (p + n) ((c :: r).drop n) (some (kd, (c :: r).take n)) with
        | err o e => rw [hr] at h; simp [Res.addT] at h
        | ok ts' ns0 =>
          rw [hr] at h
          simp only [Res.addT, Res.ok.injEq] at h
          obtain ⟨rfl, rfl⟩ := h
          cases j with
          | zero =>
            obtain ⟨ns', h1, h2⟩ := here (m + 1) (c :: r) m' p last _ _ h0 (by simp only [List.length_cons]; omega)
            refine ⟨Nat.le_refl _, by simp, ns', ?_, h2⟩
            simpa using h1
          | succ j =>
            simp only [List.length_cons] at hj
            obtain ⟨g1, g2, ns', g3, g4⟩ := ih ((c :: r).drop n) (m' - 1) (p + n) (some (kd, (c :: r).take n)) ts' ns0 j (by omega) (by simp only [List.length_drop, List.length_cons]; omega) hr (by simp only [List.length_drop, List.length_cons]; omega)
            simp only [List.length_drop, List.length_cons] at g2
            simp only [List.getElem_cons_succ]
            refine ⟨by omega, by omega, ns', ?_, g4⟩
            generalize hk : ts'[j].a - p = k at *
            have hk' : ts'[j].a - (p + n) = k - n := by omega
            rw [hk'] at g3
            have hnk : n ≤ k := by omega
            have hkl : k ≤ r.length + 1 := by omega
            obtain ⟨k1, rfl⟩ : ∃ k1, k = k1 + 1 := ⟨k - 1, by omega⟩
            have hstep : step c (r.take k1 ++ INS ++ (c :: r).drop (k1 + 1)) last = .tok kd n := by
              have := step_cut hst k1 hnk (by omega) (INS.tail ++ (c :: r).drop (k1 + 1))
              have e : r.take k1 ++ 10 :: (INS.tail ++ (c :: r).drop (k1 + 1)) = r.take k1 ++ INS ++ (c :: r).drop (k1 + 1) := by simp [INS]
              rw [← e]
              exact this
            have e4 : c :: (r.take k1 ++ INS ++ (c :: r).drop (k1 + 1)) = (c :: r).take (k1 + 1) ++ (INS ++ (c :: r).drop (k1 + 1)) := by simp
            have hlk : ((c :: r).take (k1 + 1)).length = k1 + 1 := by rw [List.length_take, Nat.min_eq_left (by simp only [List.length_cons]; omega)]
            have e3 : (c :: (r.take k1 ++ INS ++ (c :: r).drop (k1 + 1))).drop n = ((c :: r).drop n).take (k1 + 1 - n) ++ INS ++ ((c :: r).drop n).drop (k1 + 1 - n) := by
              rw [e4, List.drop_append_of_le_length (by rw [hlk]; exact hnk), List.drop_take, List.drop_drop, List.append_assoc]
              congr 3
              omega
            have e5 : (c :: (r.take k1 ++ INS ++ (c :: r).drop (k1 + 1))).take n = (c :: r).take n := by
              rw [e4, List.take_append_of_le_length (by rw [hlk]; exact hnk), List.take_take, Nat.min_eq_left hnk]
            rw [List.take_succ_cons, List.cons_append, List.cons_append, scan_tok (by omega) hstep, e3, e5, g3]
            rfl
      | err o e => rw [hst] at h; simp at h
end Go.Proofs.YtenjbcjekjmaeaaDoor.PTok
