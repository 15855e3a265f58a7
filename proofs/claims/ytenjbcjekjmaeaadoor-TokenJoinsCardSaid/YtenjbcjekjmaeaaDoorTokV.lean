/- The pure law of TokenCovers: the tokens and comments of the plain scan cover the source but for white space. No condition. -/
import Derived.Test.YtenjbcjekjmaeaaDoorTokU
import Derived.Test.YtenjbcjekjmaeaaDoorPTokE
namespace Go.Proofs.YtenjbcjekjmaeaaDoor.PTok
open Go.RowKit Go.Proofs.YtenjbcjekjmaeaaDoor.Ext Go.Proofs.YtenjbcjekjmaeaaDoorW.PrintWords
set_option linter.unusedVariables false
set_option linter.unusedSimpArgs false

theorem step_note2 {c : UInt8} {r : Bs} {last : Option (Nat × Bs)} {n : Nat} (h : step c r last = .note n) : c = 45 ∧ (∃ r', r = 45 :: r') ∧ 2 ≤ n ∧ n ≤ r.length + 1 := by
  obtain ⟨hn, hc⟩ := step_note h
  refine ⟨hc, ?_, ?_⟩
  · unfold step at h
    split at h
    · cases h
    · split at h
      · rename_i h2
        cases r with
        | nil => simp [headIs] at h2
        | cons d r' =>
          simp [headIs, isDash] at h2
          exact ⟨r', by rw [show d = 45 from UInt8.toNat_inj.1 h2.2]⟩
      · dsimp only at h
        repeat' (first | (split at h) | (cases h))
  · have h2 : ∃ r', r = 45 :: r' := by
      unfold step at h
      split at h
      · cases h
      · split at h
        · rename_i h2
          cases r with
          | nil => simp [headIs] at h2
          | cons d r' =>
            simp [headIs, isDash] at h2
            exact ⟨r', by rw [show d = 45 from UInt8.toNat_inj.1 h2.2]⟩
        · dsimp only at h
          repeat' (first | (split at h) | (cases h))
    obtain ⟨r', rfl⟩ := h2
    subst hc
    have hl := takeWhile_len notLf (45 :: 45 :: r')
    rw [← hn] at hl
    refine ⟨?_, by simpa using hl⟩
    rw [hn, List.takeWhile_cons, if_pos (by decide), List.takeWhile_cons, if_pos (by decide)]
    simp
/-- What comes next begins here or later. -/
theorem scan_first : ∀ (m p : Nat) (l : Bs) (last : Option (Nat × Bs)) (ts : List Tk) (ns : List (Nat × Nat)), scan m p l last = .ok ts ns → (∃ t r, ts = t :: r ∧ p ≤ t.a) ∧ (∀ n r, ns = n :: r → p ≤ n.1) := by
  intro m
  induction m with
  | zero =>
    intro p l last ts ns h
    cases l with
    | nil =>
      simp only [scan, Res.ok.injEq] at h
      obtain ⟨rfl, rfl⟩ := h
      exact ⟨⟨_, _, rfl, Nat.le_refl _⟩, fun n r h => by cases h⟩
    | cons c r => simp [scan] at h
  | succ m ih =>
    intro p l last ts ns h
    cases l with
    | nil =>
      simp only [scan, Res.ok.injEq] at h
      obtain ⟨rfl, rfl⟩ := h
      exact ⟨⟨_, _, rfl, Nat.le_refl _⟩, fun n r h => by cases h⟩
    | cons c r =>
      simp only [scan] at h
      cases hst : step c r last with
      | white =>
        rw [hst] at h
        obtain ⟨⟨t, q, e, h1⟩, h2⟩ := ih _ _ _ _ _ h
        exact ⟨⟨t, q, e, by omega⟩, fun n r e => by have := h2 n r e; omega⟩
      | note n =>
        rw [hst] at h
        simp only at h
        cases hr : scan m (p + n) ((c :: r).drop n) last with
        | err o e => rw [hr] at h; simp [Res.addN] at h
        | ok ts' ns' =>
          rw [hr] at h
          simp only [Res.addN, Res.ok.injEq] at h
          obtain ⟨rfl, rfl⟩ := h
          obtain ⟨⟨t, q, e, h1⟩, h2⟩ := ih _ _ _ _ _ hr
          refine ⟨⟨t, q, e, by omega⟩, fun n r e => ?_⟩
          simp only [List.cons.injEq] at e
          obtain ⟨rfl, rfl⟩ := e
          exact Nat.le_refl _
      | tok kd n =>
        rw [hst] at h
        simp only at h
        cases hr : scan m (p + n) ((c :: r).drop n) (some (kd, (c :: r).take n)) with
        | err o e => rw [hr] at h; simp [Res.addT] at h
        | ok ts' ns' =>
          rw [hr] at h
          simp only [Res.addT, Res.ok.injEq] at h
          obtain ⟨rfl, rfl⟩ := h
          obtain ⟨_, h2⟩ := ih _ _ _ _ _ hr
          exact ⟨⟨_, _, rfl, Nat.le_refl _⟩, fun n r e => by have := h2 n r e; omega⟩
      | err o e => rw [hst] at h; simp at h
theorem step_err {c : UInt8} {r : Bs} {last : Option (Nat × Bs)} {o e : Nat} (h : step c r last = .err o e) : e ≠ 0 ∧ o ≤ r.length + 1 := by
  have h1 := takeWhile_len isDig r
  unfold step at h
  dsimp only at h
  repeat' (first | (split at h) | (cases h))
  all_goals first | (refine ⟨by decide, ?_⟩; omega) | skip
theorem scan_err : ∀ (m p : Nat) (l : Bs) (last : Option (Nat × Bs)) (o e : Nat), l.length ≤ m → scan m p l last = .err o e → e ≠ 0 ∧ o ≤ p + l.length := by
  intro m
  induction m with
  | zero =>
    intro p l last o e hl h
    cases l with
    | nil => simp [scan] at h
    | cons c r => simp at hl
  | succ m ih =>
    intro p l last o e hl h
    cases l with
    | nil => simp [scan] at h
    | cons c r =>
      simp only [List.length_cons] at hl ⊢
      simp only [scan] at h
      cases hst : step c r last with
      | white =>
        rw [hst] at h
        have := ih _ _ _ _ _ (by omega) h
        exact ⟨this.1, by omega⟩
      | note n =>
        rw [hst] at h
        simp only at h
        have hn := step_note2 hst
        cases hr : scan m (p + n) ((c :: r).drop n) last with
        | ok ts ns => rw [hr] at h; simp [Res.addN] at h
        | err o' e' =>
          rw [hr] at h
          simp only [Res.addN, Res.err.injEq] at h
          obtain ⟨rfl, rfl⟩ := h
          have := ih _ _ _ _ _ (by simp only [List.length_drop, List.length_cons]; omega) hr
          simp only [List.length_drop, List.length_cons] at this
          exact ⟨this.1, by omega⟩
      | tok kd n =>
        rw [hst] at h
        simp only at h
        have hn := step_tok hst
        cases hr : scan m (p + n) ((c :: r).drop n) (some (kd, (c :: r).take n)) with
        | ok ts ns => rw [hr] at h; simp [Res.addT] at h
        | err o' e' =>
          rw [hr] at h
          simp only [Res.addT, Res.err.injEq] at h
          obtain ⟨rfl, rfl⟩ := h
          have := ih _ _ _ _ _ (by simp only [List.length_drop, List.length_cons]; omega) hr
          simp only [List.length_drop, List.length_cons] at this
          exact ⟨this.1, by omega⟩
      | err o' e' =>
        rw [hst] at h
        simp only [Res.err.injEq] at h
        obtain ⟨rfl, rfl⟩ := h
        have := step_err hst
        exact ⟨this.1, by omega⟩
theorem step_white {c : UInt8} {r : Bs} {last : Option (Nat × Bs)} (h : step c r last = .white) : isWhite c = true := by
  unfold step at h
  split at h
  · assumption
  · split at h
    · cases h
    · dsimp only at h
      repeat' (first | (split at h) | (cases h))
theorem rdS' (a : List Tk) (t : Tk) (b : List Tk) : rd_T36 ((a ++ t :: b).map toS) (a.length : Int) = toS t := by simp [rd_T36]
theorem rdP' (a : List (Nat × Nat)) (t : Nat × Nat) (b : List (Nat × Nat)) : rd_T33 ((a ++ t :: b).map toP) (a.length : Int) = toP t := by simp [rd_T33]
theorem wrap_p2' {p : Nat} (h : p ≤ 65536) : wrap64 ((p : Int) + 2) = ((p + 2 : Nat) : Int) := wrap_p2 h
section
variable {s : ByteArray} {X : List S36} {Y : List S33} {i n p : Int} {q : Nat}
theorem cov_j1 (k : Nat) (hk : n < (Y.length : Int) → 0 ≤ n ∧ (rd_T33 Y n).f0 ≠ p) : cellarerlaw13_TokenCovers.j1 (k + 1) s X Y i n p false = cellarerlaw13_TokenCovers.j2 k s X Y i n p false := by
  simp only [cellarerlaw13_TokenCovers.j1]
  rw [if_neg (by simp)]
  by_cases h : n < (Y.length : Int)
  · rw [if_pos h, if_pos (hk h).1, if_neg (hk h).2]
  · rw [if_neg h]
theorem cov_j2 (k : Nat) {c : UInt8} (h0 : 0 ≤ p) (h1 : p < (s.size : Int)) (hb : bt s p = (c.toNat : Int)) (hw : isWhite c = true) : cellarerlaw13_TokenCovers.j2 (k + 1) s X Y i n p false = cellarerlaw13_TokenCovers.l0 k s X Y i n (wrap64 (p + 1)) := by
  simp only [cellarerlaw13_TokenCovers.j2]
  rw [if_neg (by simp), if_pos h0, if_pos h1, hb]
  simp only [isWhite, decide_eq_true_eq] at hw
  by_cases h32 : (c.toNat : Int) = 32
  · rw [if_pos h32]
  · rw [if_neg h32]
    by_cases h9 : (c.toNat : Int) = 9
    · rw [if_pos h9]
    · rw [if_neg h9]
      by_cases h13 : (c.toNat : Int) = 13
      · rw [if_pos h13]
      · rw [if_neg h13, if_pos (by omega)]
theorem cov_skip (k : Nat) (h1 : p < (s.size : Int)) (hi : i < (X.length : Int)) (h0 : 0 ≤ i) (ht : (rd_T36 X i).f2.f0 ≠ p) : cellarerlaw13_TokenCovers.l0 (k + 1) s X Y i n p = cellarerlaw13_TokenCovers.j1 k s X Y i n p false := by
  simp only [cellarerlaw13_TokenCovers.l0]
  rw [if_pos h1, if_pos hi, if_pos h0, if_neg ht]
end
theorem covers_loop (s : ByteArray) (hs : s.size ≤ 1000) : ∀ (m : Nat) (l pre : Bs) (last : Option (Nat × Bs)) (ts td : List Tk) (ns nd : List (Nat × Nat)), l.length ≤ m → lst s = pre ++ l → scan m pre.length l last = .ok ts ns → td.length + l.length ≤ 1001 → nd.length + l.length ≤ 1001 →
    Ev (fun k => cellarerlaw13_TokenCovers.l0 k s ((td ++ ts).map toS) ((nd ++ ns).map toP) (td.length : Int) (nd.length : Int) (pre.length : Int)) true := by
  intro m
  induction m with
  | zero =>
    intro l pre last ts td ns nd hl h hsc h10 h11
    obtain rfl : l = [] := List.length_eq_zero_iff.1 (by omega)
    simp only [scan, Res.ok.injEq] at hsc
    obtain ⟨rfl, rfl⟩ := hsc
    have hz : s.size = pre.length := by rw [size_lst, h]; simp
    refine Ev.step (f := fun _ => some true) (fun k => ?_) (Ev.now _)
    simp only [cellarerlaw13_TokenCovers.l0]
    rw [if_neg (by omega), rdS', if_pos (by rw [wrap_ok (by simp only [List.length_map, List.length_append, List.length_cons, List.length_nil]; omega) (by simp only [List.length_map, List.length_append, List.length_cons, List.length_nil]; omega)]; simp only [List.length_map, List.length_append, List.length_cons, List.length_nil]; omega), if_pos (by simp), if_pos (by omega), if_pos (by simp; omega), if_pos (by simp [toS]), if_pos (by simp [toS, mkS, toList_lst, lst])]
    simp [toS, toP, hz]
  | succ m ih =>
    intro l pre last ts td ns nd hl h hsc h10 h11
    cases l with
    | nil =>
      simp only [scan, Res.ok.injEq] at hsc
      obtain ⟨rfl, rfl⟩ := hsc
      have hz : s.size = pre.length := by rw [size_lst, h]; simp
      refine Ev.step (f := fun _ => some true) (fun k => ?_) (Ev.now _)
      simp only [cellarerlaw13_TokenCovers.l0]
      rw [if_neg (by omega), rdS', if_pos (by rw [wrap_ok (by simp only [List.length_map, List.length_append, List.length_cons, List.length_nil]; omega) (by simp only [List.length_map, List.length_append, List.length_cons, List.length_nil]; omega)]; simp only [List.length_map, List.length_append, List.length_cons, List.length_nil]; omega), if_pos (by simp), if_pos (by omega), if_pos (by simp; omega), if_pos (by simp [toS]), if_pos (by simp [toS, mkS, toList_lst, lst])]
      simp [toS, toP, hz]
    | cons c r =>
      simp only [List.length_cons] at hl h10 h11
      have hlt := mid_lt h
      rw [← size_lst] at hlt
      have hb := bt_mid h
      have hsz : s.size = pre.length + (r.length + 1) := by rw [size_lst, h]; simp
      have hfirst := scan_first _ _ _ _ _ _ hsc
      simp only [scan] at hsc
      cases hst : step c r last with
      | white =>
        rw [hst] at hsc
        simp only at hsc
        have hw := step_white hst
        have hf := scan_first _ _ _ _ _ _ hsc
        obtain ⟨⟨t, q, rfl, h1⟩, h2⟩ := hf
        have hnx := ih r (pre ++ [c]) last _ td ns nd (by omega) (by rw [h]; simp) (by simpa using hsc) (by omega) (by omega)
        refine Ev.step (f := fun k => cellarerlaw13_TokenCovers.j1 k s ((td ++ t :: q).map toS) ((nd ++ ns).map toP) (td.length : Int) (nd.length : Int) (pre.length : Int) false) (fun k => cov_skip k (by omega) (by simp; omega) (by omega) (by rw [rdS']; simp only [toS, toP]; omega)) ?_
        refine Ev.step (f := fun k => cellarerlaw13_TokenCovers.j2 k s ((td ++ t :: q).map toS) ((nd ++ ns).map toP) (td.length : Int) (nd.length : Int) (pre.length : Int) false) (fun k => cov_j1 k (fun hk => ⟨by omega, ?_⟩)) ?_
        · cases ns with
          | nil => simp at hk
          | cons n ns' => rw [rdP']; have := h2 n ns' rfl; simp only [toP]; omega
        refine Ev.step (fun k => cov_j2 k (by omega) (by omega) hb hw) ?_
        rw [wrap_p1 (by omega)]
        simpa using hnx
      | note n =>
        rw [hst] at hsc
        simp only at hsc
        obtain ⟨hc, ⟨r', hr'⟩, hn2, hnl⟩ := step_note2 hst
        cases hr : scan m (pre.length + n) ((c :: r).drop n) last with
        | err o e => rw [hr] at hsc; simp [Res.addN] at hsc
        | ok ts' ns' =>
          rw [hr] at hsc
          simp only [Res.addN, Res.ok.injEq] at hsc
          obtain ⟨rfl, rfl⟩ := hsc
          obtain ⟨⟨t, q, rfl, h1⟩, h2⟩ := scan_first _ _ _ _ _ _ hr
          have hnx := ih ((c :: r).drop n) (pre ++ (c :: r).take n) last _ td ns' (nd ++ [(pre.length, pre.length + n)]) (by simp only [List.length_drop, List.length_cons]; omega) (by rw [h]; simp) (by rw [List.length_append, List.length_take, Nat.min_eq_left (by simp only [List.length_cons]; omega)]; exact hr) (by simp only [List.length_drop, List.length_cons]; omega) (by simp only [List.length_append, List.length_nil, List.length_drop, List.length_cons]; omega)
          refine Ev.step (f := fun k => cellarerlaw13_TokenCovers.j1 k s ((td ++ t :: q).map toS) ((nd ++ (pre.length, pre.length + n) :: ns').map toP) (td.length : Int) (nd.length : Int) (pre.length : Int) false) (fun k => cov_skip k (by omega) (by simp; omega) (by omega) (by rw [rdS']; simp only [toS, toP]; omega)) ?_
          refine Ev.step (f := fun k => cellarerlaw13_TokenCovers.j2 k s ((td ++ t :: q).map toS) ((nd ++ (pre.length, pre.length + n) :: ns').map toP) (td.length : Int) (nd.length : Int) (pre.length : Int) true) (fun k => ?_) ?_
          · simp only [cellarerlaw13_TokenCovers.j1]
            rw [if_neg (by simp), if_pos (by simp; omega), if_pos (by omega), rdP', if_pos (by simp [toP]), wrap_p1 (by omega), if_pos (by simp only [toP]; omega), if_pos (by omega), wrap_p2 (by omega), if_pos (by omega), if_pos (by rw [hr'] at hsz; simp only [List.length_cons] at hsz; omega), cut_mid h 2]
            congr 1
            subst hc
            rw [hr', toList_lst, lst_mkS]
            rfl
          · refine Ev.step (f := fun k => cellarerlaw13_TokenCovers.l0 k s ((td ++ t :: q).map toS) ((nd ++ [(pre.length, pre.length + n)] ++ ns').map toP) (td.length : Int) ((nd ++ [(pre.length, pre.length + n)]).length : Int) ((pre ++ (c :: r).take n).length : Int)) (fun k => ?_) hnx
            simp only [cellarerlaw13_TokenCovers.j2]
            rw [if_pos trivial, if_pos (by omega), if_pos (by simp; omega), rdP', wrap_p1 (by omega)]
            simp only [List.append_assoc, List.singleton_append, List.length_append, List.length_cons, List.length_nil, toP, List.length_take]
            rw [Nat.min_eq_left (by omega)]
      | tok kd n =>
        rw [hst] at hsc
        simp only at hsc
        have hn := step_tok hst
        cases hr : scan m (pre.length + n) ((c :: r).drop n) (some (kd, (c :: r).take n)) with
        | err o e => rw [hr] at hsc; simp [Res.addT] at hsc
        | ok ts' ns' =>
          rw [hr] at hsc
          simp only [Res.addT, Res.ok.injEq] at hsc
          obtain ⟨rfl, rfl⟩ := hsc
          have hnx := ih ((c :: r).drop n) (pre ++ (c :: r).take n) (some (kd, (c :: r).take n)) _ (td ++ [⟨kd, (c :: r).take n, pre.length, pre.length + n⟩]) ns' nd (by simp only [List.length_drop, List.length_cons]; omega) (by rw [h]; simp) (by rw [List.length_append, List.length_take, Nat.min_eq_left (by simp only [List.length_cons]; omega)]; exact hr) (by simp only [List.length_append, List.length_nil, List.length_drop, List.length_cons]; omega) (by simp only [List.length_drop, List.length_cons]; omega)
          refine Ev.step (f := fun k => cellarerlaw13_TokenCovers.j1 k s ((td ++ (⟨kd, (c :: r).take n, pre.length, pre.length + n⟩ : Tk) :: ts').map toS) ((nd ++ ns').map toP) (td.length : Int) (nd.length : Int) (pre.length : Int) true) (fun k => ?_) ?_
          · simp only [cellarerlaw13_TokenCovers.l0]
            rw [if_pos (by omega), if_pos (by simp; omega), if_pos (by omega), rdS', if_pos (by simp [toS, toP]), if_pos (by simp only [toS, toP]; omega), if_pos (by simp only [toS, toP]; omega), if_pos (by omega), if_pos (by simp only [toS, toP]; omega)]
            simp only [toS, toP]
            rw [cut_mid h n]
            simp
          · refine Ev.step (f := fun k => cellarerlaw13_TokenCovers.l0 k s ((td ++ [(⟨kd, (c :: r).take n, pre.length, pre.length + n⟩ : Tk)] ++ ts').map toS) ((nd ++ ns').map toP) ((td ++ [(⟨kd, (c :: r).take n, pre.length, pre.length + n⟩ : Tk)]).length : Int) (nd.length : Int) ((pre ++ (c :: r).take n).length : Int)) (fun k => ?_) hnx
            simp only [cellarerlaw13_TokenCovers.j1]
            rw [if_pos trivial, if_pos (by omega), if_pos (by simp; omega), rdS', wrap_p1 (by omega)]
            simp only [List.append_assoc, List.singleton_append, List.length_append, List.length_cons, List.length_nil, toS, toP, List.length_take]
            rw [Nat.min_eq_left (by omega)]
      | err o e => rw [hst] at hsc; simp at hsc
theorem bad_le : ∀ (r : Bs) (p : Nat), bad p r ≤ ((p + r.length : Nat) : Int) := by
  intro r
  induction r with
  | nil => intro p; simp only [bad]; omega
  | cons c r ih =>
    intro p
    have := ih (p + 1)
    simp only [bad, List.length_cons]
    split <;> omega
theorem TokenCovers : cellarerlaw13_TokenCovers.Pure := by
  intro s hs0
  refine Ev.rounds (r := true) ?_
  unfold cellarerlaw13_TokenCovers.f
  refine Ev.bind awake_ev ?_
  refine Ev.congr (fun k => if_pos rfl) ?_
  by_cases hs : s.size ≤ 1000
  · refine Ev.congr (fun k => if_neg (by omega)) ?_
    refine Ev.bind (token_Scan_ev s (by omega)) ?_
    by_cases hbad : bad 0 (lst s) ≥ 0
    · rw [if_pos hbad]
      have := bad_le (lst s) 0
      rw [← size_lst] at this
      refine Ev.congr (f := fun _ => some true) (fun k => ?_) (Ev.now _)
      simp only
      rw [if_neg (by decide), if_pos (by simp), if_pos (by simp), if_pos hbad]
      simp
      omega
    · rw [if_neg hbad]
      cases hr : scan (lst s).length 0 (lst s) none with
      | err o e =>
        have := scan_err _ _ _ _ _ _ (Nat.le_refl _) hr
        rw [← size_lst] at this
        show Ev (fun k => (if ((e : Int)) = 0 then cellarerlaw13_TokenCovers.l0 k s [] [] 0 0 0 else if ((([] : List S36).length : Int)) = 0 then (if ((([] : List S33).length : Int)) = 0 then (if (o : Int) ≥ 0 then some (decide ((o : Int) ≤ (s.size : Int))) else some false) else some false) else some false)) true
        refine Ev.congr (f := fun _ => some true) (fun k => ?_) (Ev.now _)
        rw [if_neg (show ¬ ((e : Int) = 0) by omega), if_pos (by simp), if_pos (by simp), if_pos (show (o : Int) ≥ 0 by omega)]
        simp
        omega
      | ok ts ns =>
        have := covers_loop s hs (lst s).length (lst s) [] none ts [] ns [] (Nat.le_refl _) rfl hr (by rw [← size_lst]; simp; omega) (by rw [← size_lst]; simp; omega)
        refine Ev.congr (fun k => if_pos rfl) ?_
        simpa [out] using this
  · exact Ev.congr (f := fun _ => some true) (fun k => if_pos (by omega)) (Ev.now _)
end Go.Proofs.YtenjbcjekjmaeaaDoor.PTok
