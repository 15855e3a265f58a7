/- The pure law of TokenBack: the tokens of a source can be joined, and the text that results has the same tokens. No condition. -/
import Derived.Test.YtenjbcjekjmaeaaDoorTokWa
namespace Go.Proofs.YtenjbcjekjmaeaaDoor.PTok
open Go.RowKit Go.Proofs.YtenjbcjekjmaeaaDoor.Ext Go.Proofs.YtenjbcjekjmaeaaDoorW.PrintWords
set_option linter.unusedVariables false
set_option linter.unusedSimpArgs false

/-- What may stand behind a token's text: nothing, or a space. -/
def okRest (q : Bs) : Prop := q = [] ∨ ∃ r, q = 32 :: r
theorem okRest_head {q : Bs} (h : okRest q) (p : UInt8 → Bool) (hp : p 32 = false) : headIs p q = false := by
  rcases h with rfl | ⟨r, rfl⟩
  · rfl
  · exact hp
theorem name_dash {c : UInt8} (h : isName c = true) : isDash c = false := by
  cases hd : isDash c with
  | false => rfl
  | true =>
    simp only [isDash, decide_eq_true_eq] at hd
    obtain rfl : c = 45 := UInt8.toNat_inj.1 hd
    exact absurd h (by decide)
def stepName (c : UInt8) (r : Bs) (kd n : Nat) : Prop := (isName c && !isDig c && !isLow c) = true ∧ n = 1 + (r.takeWhile isName).length ∧ ¬ 32 < n ∧ kd = (if c.toNat ≤ 90 then 2 else if kws.contains ((c :: r).take n) then 5 else 1)
def stepNum (c : UInt8) (r : Bs) (last : Option (Nat × Bs)) (kd n : Nat) : Prop := (isName c && !isDig c && !isLow c) = false ∧ (isDig c || (isDash c && headIs isDig r && sgn last)) = true ∧ n = 1 + (r.takeWhile isDig).length ∧ isNum ((c :: r).take n) = true ∧ headIs isName ((c :: r).drop n) = false ∧ kd = 3
def stepSign (c : UInt8) (r : Bs) (last : Option (Nat × Bs)) (kd n : Nat) : Prop := (isName c && !isDig c && !isLow c) = false ∧ (isDig c || (isDash c && headIs isDig r && sgn last)) = false ∧ (isLow c && headIs isName r) = false ∧ punct (c :: r) = n ∧ n ≠ 0 ∧ kd = 4
theorem step_inv {c : UInt8} {r : Bs} {last : Option (Nat × Bs)} {kd n : Nat} (h : step c r last = .tok kd n) : isWhite c = false ∧ (isDash c && headIs isDash r) = false ∧ (stepName c r kd n ∨ stepNum c r last kd n ∨ stepSign c r last kd n) := by
  unfold step at h
  cases h1 : isWhite c with
  | true => rw [h1, if_pos rfl] at h; cases h
  | false =>
    rw [h1, if_neg (by decide)] at h
    cases h2 : (isDash c && headIs isDash r) with
    | true => rw [h2, if_pos rfl] at h; cases h
    | false =>
      rw [h2, if_neg (by decide)] at h
      refine ⟨rfl, rfl, ?_⟩
      cases h3 : (isName c && !isDig c && !isLow c) with
      | true =>
        rw [h3, if_pos rfl] at h
        dsimp only at h
        split at h
        · cases h
        · rename_i h4
          injection h with h5 h6
          subst h6
          exact .inl ⟨h3, rfl, h4, h5.symm⟩
      | false =>
        rw [h3, if_neg (by decide)] at h
        cases h4 : (isDig c || (isDash c && headIs isDig r && sgn last)) with
        | true =>
          rw [h4, if_pos rfl] at h
          dsimp only at h
          split at h
          · cases h
          · rename_i h5
            split at h
            · cases h
            · rename_i h6
              injection h with h7 h8
              subst h8
              exact .inr (.inl ⟨h3, h4, rfl, by simpa using h5, by simpa using h6, h7.symm⟩)
        | false =>
          rw [h4, if_neg (by decide)] at h
          cases h5 : (isLow c && headIs isName r) with
          | true => rw [h5, if_pos rfl] at h; cases h
          | false =>
            rw [h5, if_neg (by decide)] at h
            split at h
            · cases h
            · rename_i k hk
              injection h with h7 h8
              subst h8
              exact .inr (.inr ⟨h3, h4, h5, hk, by omega, h7.symm⟩)
theorem step_mk {c : UInt8} {r : Bs} {last : Option (Nat × Bs)} {kd n : Nat} (h1 : isWhite c = false) (h2 : (isDash c && headIs isDash r) = false) (h : stepName c r kd n ∨ stepNum c r last kd n ∨ stepSign c r last kd n) : step c r last = .tok kd n := by
  unfold step
  rw [h1, if_neg (by decide), h2, if_neg (by decide)]
  rcases h with ⟨a, b, d, e⟩ | ⟨a, a2, b, d, e, f⟩ | ⟨a, a2, b, d, e, f⟩
  · rw [a, if_pos rfl]
    dsimp only
    rw [← b, if_neg d, ← e]
  · rw [a, if_neg (by decide), a2, if_pos rfl]
    dsimp only
    rw [← b, d, e, f]
    rfl
  · rw [a, if_neg (by decide), a2, if_neg (by decide), b, if_neg (by decide), d, f]
    cases n with
    | zero => exact absurd rfl e
    | succ n => rfl
theorem punct_le2 (l : Bs) : punct l ≤ 2 := by
  unfold punct
  split
  · exact Nat.le_refl _
  · split
    · omega
    · split <;> omega
/-- A token's text, with nothing or a space behind it, is the same token. -/
theorem step_again {c : UInt8} {r : Bs} {last : Option (Nat × Bs)} {kd n : Nat} (h : step c r last = .tok kd n) (q : Bs) (hq : okRest q) : step c (r.take (n - 1) ++ q) last = .tok kd n := by
  have hn := step_tok h
  obtain ⟨h1, h2, h3⟩ := step_inv h
  have qn := okRest_head hq isName (by decide)
  have qd := okRest_head hq isDig (by decide)
  have qq := okRest_head hq isDash (by decide)
  rcases h3 with ⟨a, b, d, e⟩ | ⟨a, a2, b, d, e, f⟩ | ⟨a, a2, b, d, e, f⟩
  · -- a name
    have hname : isName c = true := by
      simp only [Bool.and_eq_true] at a
      exact a.1.1
    have htk : r.take (n - 1) = r.takeWhile isName := by rw [b, Nat.add_sub_cancel_left, take_takeWhile]
    have tw := tw_app isName (r.takeWhile isName) q (takeWhile_all isName r) qn
    have e1 : (c :: r).take n = c :: r.takeWhile isName := by rw [b, Nat.add_comm, List.take_succ_cons, take_takeWhile]
    have e2 : (c :: (r.takeWhile isName ++ q)).take n = c :: r.takeWhile isName := by rw [b, Nat.add_comm, List.take_succ_cons, List.take_left']; rfl
    refine step_mk h1 (by rw [name_dash hname]; rfl) (.inl ⟨a, by rw [htk, tw]; exact b, d, ?_⟩)
    rw [htk, e2, ← e1]
    exact e
  · -- a number
    have htk : r.take (n - 1) = r.takeWhile isDig := by rw [b, Nat.add_sub_cancel_left, take_takeWhile]
    have tw := tw_app isDig (r.takeWhile isDig) q (takeWhile_all isDig r) qd
    have e1 : (c :: r).take n = c :: r.takeWhile isDig := by rw [b, Nat.add_comm, List.take_succ_cons, take_takeWhile]
    have e2 : (c :: (r.takeWhile isDig ++ q)).take n = c :: r.takeWhile isDig := by rw [b, Nat.add_comm, List.take_succ_cons, List.take_left']; rfl
    have e3 : (c :: (r.takeWhile isDig ++ q)).drop n = q := by rw [b, Nat.add_comm, List.drop_succ_cons, List.drop_left']; rfl
    have hh : headIs isDig (r.takeWhile isDig ++ q) = headIs isDig r := by
      cases r with
      | nil => exact qd
      | cons x r' =>
        cases hx : isDig x with
        | true => rw [List.takeWhile_cons, if_pos hx]; rfl
        | false => rw [List.takeWhile_cons, if_neg (by rw [hx]; decide)]; show headIs isDig q = isDig x; rw [qd, hx]
    refine step_mk h1 ?_ (.inr (.inl ⟨a, by rw [htk, hh]; exact a2, by rw [htk, tw]; exact b, by rw [htk, e2, ← e1]; exact d, by rw [htk, e3]; exact qn, f⟩))
    rw [htk]
    cases hdash : isDash c with
    | false => rfl
    | true =>
      have hdc : isDig c = false := by
        cases hdc : isDig c with
        | false => rfl
        | true => rw [(dig_not hdc).2.1] at hdash; cases hdash
      rw [hdash, hdc] at a2
      simp only [Bool.false_or, Bool.true_and, Bool.and_eq_true] at a2
      cases r with
      | nil => simp [headIs] at a2
      | cons x r' =>
        have hx : isDig x = true := a2.1
        rw [List.takeWhile_cons, if_pos hx]
        show (true && isDash x) = false
        rw [(dig_not hx).2.1]
        rfl
  · -- punctuation
    have hp2 := punct_le2 (c :: r)
    rw [d] at hp2
    have : n = 1 ∨ n = 2 := by omega
    rcases this with rfl | rfl
    · simp only [Nat.sub_self, List.take_zero, List.nil_append]
      have hdc : isDig c = false := by
        cases hdc : isDig c with
        | false => rfl
        | true => rw [hdc] at a2; cases a2
      refine step_mk h1 (by rw [qq, Bool.and_false]) (.inr (.inr ⟨a, by rw [hdc, qd]; simp, by rw [qn, Bool.and_false], ?_, e, f⟩))
      have ho : ones.contains c = true := by
        rw [punct_cons] at d
        cases ho : ones.contains c with
        | true => rfl
        | false =>
          rw [ho] at d
          split at d <;> simp at d
      rw [punct_cons, ho, if_pos rfl, if_neg]
      rcases hq with rfl | ⟨q', rfl⟩
      · simp [twos]
      · simp [twos]
    · have h2' : twos.contains ((c :: r).take 2) = true := by
        rw [punct_cons] at d
        cases ht : twos.contains ((c :: r).take 2) with
        | true => rfl
        | false =>
          rw [ht] at d
          simp only [Bool.false_eq_true, if_false] at d
          split at d <;> simp at d
      cases r with
      | nil => simp [twos] at h2'
      | cons x r' =>
        simp only [Nat.add_one_sub_one, List.take_succ_cons, List.take_zero, List.cons_append, List.nil_append]
        refine step_mk h1 h2 (.inr (.inr ⟨a, a2, b, ?_, e, f⟩))
        rw [punct_cons, if_pos]
        simpa using h2'
/-- A chain of tokens, each of which is read again from its own text. -/
def Links : Option (Nat × Bs) → List Tk → Prop
  | _, [] => True
  | last, t :: ts => t.kd ≠ 6 ∧ (∃ c x, t.text = c :: x ∧ ∀ q, okRest q → step c (x ++ q) last = .tok t.kd (x.length + 1)) ∧ Links (some (t.kd, t.text)) ts
def tot : List Tk → Nat
  | [] => 0
  | t :: ts => t.text.length + 1 + tot ts
theorem kd_six {c : UInt8} {r : Bs} {last : Option (Nat × Bs)} {kd n : Nat} (h : step c r last = .tok kd n) : kd ≠ 6 := by
  obtain ⟨_, _, h3⟩ := step_inv h
  rcases h3 with ⟨_, _, _, e⟩ | ⟨_, _, _, _, _, f⟩ | ⟨_, _, _, _, _, f⟩
  · rw [e]
    split
    · omega
    · split <;> omega
  · omega
  · omega
theorem scan_links : ∀ (m p : Nat) (l : Bs) (last : Option (Nat × Bs)) (ts : List Tk) (ns : List (Nat × Nat)), scan m p l last = .ok ts ns → ∃ ws e, ts = ws ++ [e] ∧ e.kd = 6 ∧ e.text = [] ∧ Links last ws ∧ tot ws ≤ 2 * l.length ∧ ∀ t ∈ ws, ∀ x ∈ t.text, x ∈ l := by
  intro m
  induction m with
  | zero =>
    intro p l last ts ns h
    cases l with
    | nil =>
      simp only [scan, Res.ok.injEq] at h
      obtain ⟨rfl, rfl⟩ := h
      exact ⟨[], _, rfl, rfl, rfl, trivial, by simp [tot], fun t ht => by cases ht⟩
    | cons c r => simp [scan] at h
  | succ m ih =>
    intro p l last ts ns h
    cases l with
    | nil =>
      simp only [scan, Res.ok.injEq] at h
      obtain ⟨rfl, rfl⟩ := h
      exact ⟨[], _, rfl, rfl, rfl, trivial, by simp [tot], fun t ht => by cases ht⟩
    | cons c r =>
      simp only [scan] at h
      cases hst : step c r last with
      | white =>
        rw [hst] at h
        obtain ⟨ws, e, h1, h2, h3, h4, h5, h6⟩ := ih _ _ _ _ _ h
        exact ⟨ws, e, h1, h2, h3, h4, by simp only [List.length_cons]; omega, fun t ht x hx => List.mem_cons_of_mem _ (h6 t ht x hx)⟩
      | note n =>
        rw [hst] at h
        simp only at h
        cases hr : scan m (p + n) ((c :: r).drop n) last with
        | err o e => rw [hr] at h; simp [Res.addN] at h
        | ok ts' ns' =>
          rw [hr] at h
          simp only [Res.addN, Res.ok.injEq] at h
          obtain ⟨rfl, rfl⟩ := h
          obtain ⟨ws, e, h1, h2, h3, h4, h5, h6⟩ := ih _ _ _ _ _ hr
          simp only [List.length_drop] at h5
          exact ⟨ws, e, h1, h2, h3, h4, by omega, fun t ht x hx => List.mem_of_mem_drop (h6 t ht x hx)⟩
      | tok kd n =>
        rw [hst] at h
        simp only at h
        have hn := step_tok hst
        cases hr : scan m (p + n) ((c :: r).drop n) (some (kd, (c :: r).take n)) with
        | err o e => rw [hr] at h; simp [Res.addT] at h
        | ok ts' ns' =>
          rw [hr] at h
          simp only [Res.addT, Res.ok.injEq] at h
          obtain ⟨rfl, rfl⟩ := h
          obtain ⟨ws, e, h1, h2, h3, h4, h5, h6⟩ := ih _ _ _ _ _ hr
          have htk : (c :: r).take n = c :: r.take (n - 1) := by
            obtain ⟨j, rfl⟩ : ∃ j, n = j + 1 := ⟨n - 1, by omega⟩
            rfl
          have hl : (r.take (n - 1)).length + 1 = n := by rw [List.length_take, Nat.min_eq_left (by omega)]; omega
          refine ⟨⟨kd, (c :: r).take n, p, p + n⟩ :: ws, e, by rw [h1]; rfl, h2, h3, ⟨kd_six hst, ⟨c, r.take (n - 1), htk, fun q hq => by rw [hl]; exact step_again hst q hq⟩, h4⟩, ?_, ?_⟩
          · simp only [tot, List.length_take, List.length_drop, List.length_cons] at h5 ⊢
            rw [Nat.min_eq_left (by omega)]
            omega
          · intro t ht x hx
            rcases List.mem_cons.1 ht with rfl | ht
            · exact List.mem_of_mem_take hx
            · exact List.mem_of_mem_drop (h6 t ht x hx)
      | err o e => rw [hst] at h; simp at h
/-- The texts, a space between each two. -/
def jn : List Tk → Bs
  | [] => []
  | [t] => t.text
  | t :: u :: ts => t.text ++ 32 :: jn (u :: ts)
theorem jn_le : ∀ ws, (jn ws).length ≤ tot ws
  | [] => Nat.le_refl _
  | [t] => by simp [jn, tot]
  | t :: u :: ts => by
    have := jn_le (u :: ts)
    simp only [jn, tot, List.length_append, List.length_cons] at this ⊢
    omega
theorem jn_mem : ∀ ws x, x ∈ jn ws → x = 32 ∨ ∃ t ∈ ws, x ∈ t.text
  | [], x, h => by simp [jn] at h
  | [t], x, h => .inr ⟨t, by simp, h⟩
  | t :: u :: ts, x, h => by
    simp only [jn, List.mem_append, List.mem_cons] at h
    rcases h with h | h | h
    · exact .inr ⟨t, by simp, h⟩
    · exact .inl h
    · rcases jn_mem (u :: ts) x h with h | ⟨v, hv, hx⟩
      · exact .inl h
      · exact .inr ⟨v, List.mem_cons_of_mem _ hv, hx⟩
theorem jn_join : ∀ ws : List Tk, Lib.join (ws.map (·.text)) [32] = jn ws
  | [] => rfl
  | [t] => by simp [Lib.join_one, jn]
  | t :: u :: ts => by
    have := jn_join (u :: ts)
    simp only [Lib.join, List.map_cons, jn] at this ⊢
    rw [← this]
    simp [List.intercalate, List.intersperse]
def kt (t : Tk) : Nat × Bs := (t.kd, t.text)
/-- The joined text has the same tokens. -/
theorem scan_jn : ∀ (ws : List Tk) (last : Option (Nat × Bs)) (m p : Nat), Links last ws → (jn ws).length ≤ m → ∃ ts, scan m p (jn ws) last = .ok ts [] ∧ ts.map kt = ws.map kt ++ [(6, [])]
  | [], last, m, p, _, _ => ⟨_, scan_nil m p last, rfl⟩
  | [t], last, m, p, h, hm => by
    obtain ⟨_, ⟨c, x, hx, hs⟩, _⟩ := h
    have hst := hs [] (.inl rfl)
    rw [List.append_nil] at hst
    simp only [jn] at hm ⊢
    rw [hx] at hm ⊢
    simp only [List.length_cons] at hm
    refine ⟨[⟨t.kd, c :: x, p, p + (x.length + 1)⟩, ⟨6, [], p + (x.length + 1), p + (x.length + 1)⟩], ?_, ?_⟩
    · rw [scan_tok (by omega) hst]
      simp only [List.drop_succ_cons, List.drop_length, List.take_succ_cons, List.take_length, scan_nil, Res.addT]
    · simp [kt, hx]
  | t :: u :: ws, last, m, p, h, hm => by
    obtain ⟨_, ⟨c, x, hx, hs⟩, h4⟩ := h
    have hst := hs (32 :: jn (u :: ws)) (.inr ⟨_, rfl⟩)
    simp only [jn] at hm ⊢
    rw [hx] at hm ⊢
    simp only [List.length_append, List.length_cons] at hm
    have e1 : (c :: (x ++ 32 :: jn (u :: ws))).drop (x.length + 1) = 32 :: jn (u :: ws) := by rw [List.drop_succ_cons, List.drop_left']; rfl
    have e2 : (c :: (x ++ 32 :: jn (u :: ws))).take (x.length + 1) = c :: x := by rw [List.take_succ_cons, List.take_left']; rfl
    obtain ⟨ts, h5, h6⟩ := scan_jn (u :: ws) (some (t.kd, t.text)) (m - 1 - 1) (p + (x.length + 1) + 1) h4 (by omega)
    refine ⟨⟨t.kd, c :: x, p, p + (x.length + 1)⟩ :: ts, ?_, ?_⟩
    · rw [List.cons_append, scan_tok (by omega) hst, e1, e2, scan_wh (by omega) (step_space _ _), ← hx, h5]
      rfl
    · rw [List.map_cons, h6]
      simp [kt, hx]
theorem bad_neg : ∀ (l : Bs) (p : Nat), ¬ bad p l ≥ 0 → ∀ c ∈ l, isFine c = true := by
  intro l
  induction l with
  | nil => intro p _ c hc; cases hc
  | cons x r ih =>
    intro p h c hc
    simp only [bad] at h
    by_cases hx : isFine x = true
    · rw [if_pos hx] at h
      rcases List.mem_cons.1 hc with rfl | hc
      · exact hx
      · exact ih _ h c hc
    · rw [if_neg hx] at h
      exact absurd (by omega) h
/-! the program's Join -/
section
variable {ws : List Tk} {e : Tk} {ts : List Tk}
theorem kt_len (h : ts.map kt = ws.map kt ++ [(6, [])]) : ts.length = ws.length + 1 := by
  have := congrArg List.length h
  simpa using this
theorem kt_get (h : ts.map kt = ws.map kt ++ [(6, [])]) (i : Nat) (hi : i < ws.length) : (ts[i]'(by rw [kt_len h]; omega)).kd = ws[i].kd ∧ (ts[i]'(by rw [kt_len h]; omega)).text = ws[i].text := by
  have h1 : (ts.map kt)[i]? = (ws.map kt ++ [(6, [])])[i]? := by rw [h]
  rw [List.getElem?_append_left (by simpa using hi)] at h1
  have h2 : i < ts.length := by rw [kt_len h]; omega
  simp only [List.getElem?_map, List.getElem?_eq_getElem h2, List.getElem?_eq_getElem hi, Option.map_some, Option.some.injEq, kt, Prod.mk.injEq] at h1
  exact h1
theorem join_cmp (S : ByteArray) (h : ts.map kt = ws.map kt ++ [(6, [])]) (hl : ws.length ≤ 65536) : ∀ (d i : Nat), i + d = ws.length → Ev (fun k => token_Join.l1 k S (ts.map toS) (ws.map toS) (ws.length : Int) (i : Int)) (S, 0) := by
  intro d
  induction d with
  | zero =>
    intro i hi
    refine Ev.step (f := fun _ => some (S, 0)) (fun k => ?_) (Ev.now _)
    simp only [token_Join.l1]
    rw [if_neg (by omega)]
  | succ d ih =>
    intro i hi
    refine Ev.step (f := fun k => token_Join.l1 k S (ts.map toS) (ws.map toS) (ws.length : Int) ((i + 1 : Nat) : Int)) (fun k => ?_) (ih (i + 1) (by omega))
    have h1 : i < ws.length := by omega
    have h2 : i < ts.length := by rw [kt_len h]; omega
    have h3 := kt_get h i h1
    simp only [token_Join.l1]
    rw [if_pos (by omega), if_pos (by omega), if_pos (by simp; omega), if_pos (by simp; omega), rdS ws i h1, rdS ts i h2, if_pos (by simp [toS, h3.1]), if_pos (by simp [toS, h3.2]), wrap_p1 (by omega)]
theorem join_end (hL : Links none ws) (ht : tot ws ≤ 60000) (hf : ∀ t ∈ ws, ∀ x ∈ t.text, isFine x = true) (X : List S36) (n i : Int) (hi : ¬ i < n) : Ev (fun k => token_Join.l0 k (ws.map fun t => mkS t.text) (ws.map toS) X n i) (mkS (jn ws), 0) := by
  obtain ⟨ts, h1, h2⟩ := scan_jn ws none (jn ws).length 0 hL (Nat.le_refl _)
  have hle := jn_le ws
  have hlen : ws.length ≤ tot ws := by
    clear hL hf h1 h2 hle ht
    induction ws with
    | nil => exact Nat.le_refl _
    | cons t ws ih => simp only [tot, List.length_cons]; omega
  have hjoin : strings_Join.f (ws.map fun t => mkS t.text) (⟨#[32]⟩ : ByteArray) = some (mkS (jn ws)) := by
    have e : Lib.join ((ws.map fun t => mkS t.text).map (·.data.toList)) (⟨#[32]⟩ : ByteArray).data.toList = jn ws := by
      rw [← jn_join ws, List.map_map]
      congr 1
    unfold strings_Join.f
    rw [e, if_pos (by omega), if_pos (by simp; omega)]
    rfl
  have hfine : ∀ c ∈ lst (mkS (jn ws)), isFine c = true := by
    rw [lst_mkS]
    intro c hc
    rcases jn_mem ws c hc with rfl | ⟨t, ht, hx⟩
    · decide
    · exact hf t ht c hx
  have hs : (mkS (jn ws)).size ≤ 65536 := by rw [size_mkS]; omega
  have hsc := scan_fine (mkS (jn ws)) hs hfine
  rw [lst_mkS, h1] at hsc
  refine Ev.step (f := fun k => (token_Scan.f k (mkS (jn ws))).bind fun bt399 => (if bt399.2.2.2 = 0 then (token_Join.j1 k (ws.map toS) (mkS (jn ws)) bt399.1 ((bt399.1.length : Int) != (wrap64 (((ws.map toS).length : Int) + 1)))) else (token_Join.j1 k (ws.map toS) (mkS (jn ws)) bt399.1 true))) (fun k => ?_) (Ev.bind hsc ?_)
  · simp only [token_Join.l0]
    rw [if_neg hi, hjoin]
    simp only [Option.bind_some]
    rw [if_neg (by omega)]
  · refine Ev.congr (fun k => if_pos rfl) ?_
    have e : (((ts.map toS).length : Int) != (wrap64 (((ws.map toS).length : Int) + 1))) = false := by
      rw [wrap_ok (by omega) (by simp; omega)]
      simp [kt_len h2]
    refine Ev.step (f := fun k => token_Join.l1 k (mkS (jn ws)) (ts.map toS) (ws.map toS) (ws.length : Int) 0) (fun k => ?_) (join_cmp _ h2 (by omega) ws.length 0 (by omega))
    show token_Join.j1 (k + 1) (ws.map toS) (mkS (jn ws)) (ts.map toS) (((ts.map toS).length : Int) != (wrap64 (((ws.map toS).length : Int) + 1))) = _
    rw [e]
    simp only [token_Join.j1]
    rw [if_neg (by decide)]
    simp
theorem join_loop (he : e.kd = 6) (hL : Links none ws) (hk : ∀ t ∈ ws, t.kd ≠ 6) (ht : tot ws ≤ 60000) (hn : ws.length ≤ 60000) (hf : ∀ t ∈ ws, ∀ x ∈ t.text, isFine x = true) : ∀ (todo don : List Tk), ws = don ++ todo →
    Ev (fun k => token_Join.l0 k (don.map fun t => mkS t.text) (don.map toS) ((ws ++ [e]).map toS) (((ws ++ [e]).map toS).length : Int) (don.length : Int)) (mkS (jn ws), 0) := by
  intro todo
  induction todo with
  | nil =>
    intro don hd
    rw [List.append_nil] at hd
    subst hd
    refine Ev.step (f := fun k => token_Join.l0 k (ws.map fun t => mkS t.text) (ws.map toS) ((ws ++ [e]).map toS) (((ws ++ [e]).map toS).length : Int) ((ws.length + 1 : Nat) : Int)) (fun k => ?_) (join_end hL ht hf _ _ _ (by simp))
    simp only [token_Join.l0]
    rw [if_pos (by simp; omega), if_pos (by omega), if_pos (by simp; omega), rdS', if_pos (by simp [toS, he]), wrap_p1 (by omega)]
  | cons t todo ih =>
    intro don hd
    have hlen : ws.length = don.length + (todo.length + 1) := by rw [hd]; simp
    have hnx := ih (don ++ [t]) (by rw [hd]; simp)
    refine Ev.step (fun k => ?_) hnx
    have hr : rd_T36 ((ws ++ [e]).map toS) (don.length : Int) = toS t := by rw [hd, List.append_assoc, List.cons_append]; exact rdS' don t _
    have h6 := hk t (by rw [hd]; simp)
    simp only [token_Join.l0]
    rw [if_pos (by simp; omega), if_pos (by omega), if_pos (by simp; omega), hr, if_neg (by simp [toS]; omega), if_pos (by simp; omega), if_pos (by simp; omega), wrap_p1 (by omega)]
    simp only [List.map_append, List.map_cons, List.map_nil, List.length_append, List.length_singleton]
    rfl
end
theorem links_kd : ∀ (ws : List Tk) (last : Option (Nat × Bs)), Links last ws → ∀ t ∈ ws, t.kd ≠ 6
  | [], _, _, t, ht => by cases ht
  | u :: ws, last, h, t, ht => by
    rcases List.mem_cons.1 ht with rfl | ht
    · exact h.1
    · exact links_kd ws _ h.2.2 t ht
theorem len_tot : ∀ ws, ws.length ≤ tot ws
  | [] => Nat.le_refl _
  | t :: ws => by have := len_tot ws; simp only [tot, List.length_cons]; omega
theorem back_loop (ts us : List Tk) (h : ts.map kt = us.map kt) (hl : ts.length ≤ 65536) : ∀ (d i : Nat), i + d = ts.length → Ev (fun k => cellarerlaw13_TokenBack.l0 k (ts.map toS) (us.map toS) (i : Int)) true := by
  have hlen : us.length = ts.length := by simpa using (congrArg List.length h).symm
  intro d
  induction d with
  | zero =>
    intro i hi
    refine Ev.step (f := fun _ => some true) (fun k => ?_) (Ev.now _)
    simp only [cellarerlaw13_TokenBack.l0]
    rw [if_neg (by simp; omega)]
  | succ d ih =>
    intro i hi
    refine Ev.step (f := fun k => cellarerlaw13_TokenBack.l0 k (ts.map toS) (us.map toS) ((i + 1 : Nat) : Int)) (fun k => ?_) (ih (i + 1) (by omega))
    have h1 : i < ts.length := by omega
    have h2 : i < us.length := by omega
    have h3 : kt ts[i] = kt us[i] := by
      have : (ts.map kt)[i]? = (us.map kt)[i]? := by rw [h]
      simpa [h1, h2] using this
    simp only [kt, Prod.mk.injEq] at h3
    simp only [cellarerlaw13_TokenBack.l0]
    rw [if_pos (by simp; omega), if_pos (by omega), if_pos (by simp; omega), rdS ts i h1, rdS us i h2, if_pos (by simp [toS, h3.1]), if_pos (by simp [toS, h3.2]), wrap_p1 (by omega)]
theorem TokenBack : cellarerlaw13_TokenBack.Pure := by
  intro s hs0
  refine Ev.rounds (r := true) ?_
  unfold cellarerlaw13_TokenBack.f
  refine Ev.bind awake_ev (Ev.congr (fun k => if_pos rfl) ?_)
  by_cases hs : s.size ≤ 1000
  · refine Ev.congr (fun k => if_neg (by omega)) (Ev.bind (token_Scan_ev s (by omega)) ?_)
    by_cases hbad : bad 0 (lst s) ≥ 0
    · rw [if_pos hbad]
      exact Ev.congr (f := fun _ => some true) (fun k => if_neg (show ¬ ((25 : Int) = 0) by decide)) (Ev.now _)
    · rw [if_neg hbad]
      cases hr : scan (lst s).length 0 (lst s) none with
      | err o e =>
        have := scan_err _ _ _ _ _ _ (Nat.le_refl _) hr
        exact Ev.congr (f := fun _ => some true) (fun k => if_neg (show ¬ ((e : Int) = 0) by omega)) (Ev.now _)
      | ok ts ns =>
        obtain ⟨ws, e, rfl, h2, h3, h4, h5, h6⟩ := scan_links _ _ _ _ _ _ hr
        rw [← size_lst] at h5
        have hlt := len_tot ws
        have hfine : ∀ t ∈ ws, ∀ x ∈ t.text, isFine x = true := fun t ht x hx => bad_neg _ _ hbad x (h6 t ht x hx)
        obtain ⟨us, g1, g2⟩ := scan_jn ws none (jn ws).length 0 h4 (Nat.le_refl _)
        have hle := jn_le ws
        have hfs : ∀ c ∈ lst (mkS (jn ws)), isFine c = true := by
          rw [lst_mkS]
          intro c hc
          rcases jn_mem ws c hc with rfl | ⟨t, ht, hx⟩
          · decide
          · exact hfine t ht c hx
        have hsc := scan_fine (mkS (jn ws)) (by rw [size_mkS]; omega) hfs
        rw [lst_mkS, g1] at hsc
        have hjoin : Ev (fun k => token_Join.f k ((ws ++ [e]).map toS)) (mkS (jn ws), 0) := join_loop h2 h4 (links_kd ws none h4) (by omega) (by omega) hfine ws [] rfl
        have hkt : (ws ++ [e]).map kt = us.map kt := by rw [g2, List.map_append]; simp [kt, h2, h3]
        have hul : us.length = ws.length + 1 := kt_len g2
        refine Ev.congr (fun k => if_pos rfl) ?_
        refine Ev.bind (a := (mkS (jn ws), 0)) (by simpa [out] using hjoin) (Ev.bind hsc ?_)
        refine Ev.congr (fun k => if_pos rfl) (Ev.congr (fun k => if_pos rfl) (Ev.congr (fun k => if_pos rfl) ?_))
        refine Ev.step (f := fun k => cellarerlaw13_TokenBack.l0 k ((ws ++ [e]).map toS) (us.map toS) 0) (fun k => ?_) (back_loop (ws ++ [e]) us hkt (by simp; omega) (ws ++ [e]).length 0 (by omega))
        have eb : (((us.map toS).length : Int) != (((ws ++ [e]).map toS).length : Int)) = false := by simp [hul]
        show cellarerlaw13_TokenBack.j0 (k + 1) (([] : List S36) ++ (ws ++ [e]).map toS) (([] : List S36) ++ us.map toS) (((([] : List S36) ++ us.map toS).length : Int) != ((([] : List S36) ++ (ws ++ [e]).map toS).length : Int)) = _
        rw [List.nil_append, List.nil_append, eb]
        simp only [cellarerlaw13_TokenBack.j0]
        rw [if_neg (by decide)]
  · exact Ev.congr (f := fun _ => some true) (fun k => if_pos (by omega)) (Ev.now _)
end Go.Proofs.YtenjbcjekjmaeaaDoor.PTok
