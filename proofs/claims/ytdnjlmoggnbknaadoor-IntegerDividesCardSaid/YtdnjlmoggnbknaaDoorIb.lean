/- What the program's trimmed, Valid and read compute: a list without zeros at its end, whether a text is canonical, a canonical text's sign and limbs; strconv's parsing of a text of digits. No condition but sizes. -/
import Derived.Test.YtdnjlmoggnbknaaDoorIa
namespace Go.Proofs.YtdnjlmoggnbknaaDoor.PInt
open Go.RowKit Go.Proofs.YtdnjlmoggnbknaaDoor.Ext Go.Proofs.YtdnjlmoggnbknaaDoorW.PrintWords Go.Proofs.YtdnjlmoggnbknaaDoor.Dec
set_option linter.unusedVariables false
set_option linter.unusedSimpArgs false

theorem trimmed_ev : ∀ (n : Nat) (l : List Int), l.length = n → n ≤ 35184372088832 → Ev (fun k => integer_trimmed.f k l) (L9.trim l) := by
  intro n
  induction n with
  | zero =>
    intro l h _
    obtain rfl := List.length_eq_zero_iff.1 h
    refine Ev.step (f := fun _ => some []) (fun k => ?_) (Ev.now _)
    simp only [integer_trimmed.f, integer_trimmed.l0]
    rw [if_neg (by simp)]
  | succ n ih =>
    intro l h hn
    obtain ⟨a, x, rfl⟩ := L9.snoc_of (l := l) (by rintro rfl; simp at h)
    rw [List.length_append, List.length_singleton] at h
    have hw : wrap64 (((a ++ [x]).length : Int) - 1) = (a.length : Int) := by rw [List.length_append, List.length_singleton, wrap_ok (by omega) (by omega)]; omega
    have hr : rd (a ++ [x]) (a.length : Int) = x := rd_mid (r := []) rfl rfl
    rw [L9.trim_snoc]
    by_cases hx : x = 0
    · rw [if_pos hx]
      refine Ev.step (f := fun k => integer_trimmed.f k a) (fun k => ?_) (ih a (by omega) (by omega))
      simp only [integer_trimmed.f, integer_trimmed.l0]
      rw [hw, hr, if_pos (by rw [List.length_append, List.length_singleton]; omega), if_pos (by omega), if_pos (by rw [List.length_append, List.length_singleton]; omega), if_pos hx, if_pos (by rw [List.length_append, List.length_singleton]; omega)]
      simp
    · rw [if_neg hx]
      refine Ev.step (f := fun _ => some (a ++ [x])) (fun k => ?_) (Ev.now _)
      simp only [integer_trimmed.f, integer_trimmed.l0]
      rw [hw, hr, if_pos (by rw [List.length_append, List.length_singleton]; omega), if_pos (by omega), if_pos (by rw [List.length_append, List.length_singleton]; omega), if_neg hx]
theorem trimmed_cl (l : List Int) (hl : l.length ≤ 35184372088832) (ho : L9.okL l) : Ev (fun k => integer_trimmed.f k l) (L9.cl (L9.lv l).toNat) := by
  rw [← L9.trim_cl ho]
  exact trimmed_ev _ l rfl hl
theorem trim_prefix (s : ByteArray) : strings_TrimPrefix.f s (⟨#[45]⟩ : ByteArray) = some (mkS (strip (lst s))) := by
  unfold strings_TrimPrefix.f stringslite_TrimPrefix.f stringslite_HasPrefix.f
  have h1 : ((⟨#[45]⟩ : ByteArray).size : Int) = 1 := rfl
  have h2 : (⟨#[45]⟩ : ByteArray).toList = [45] := toList_lst _
  rw [h1, h2]
  obtain ⟨l, rfl⟩ : ∃ l, s = mkS l := ⟨lst s, (mkS_lst s).symm⟩
  rw [lst_mkS]
  cases l with
  | nil => rw [if_neg (by rw [size_mkS]; simp)]; rfl
  | cons c r =>
    have hs : ((mkS (c :: r)).size : Int) ≥ 1 := by rw [size_mkS, List.length_cons]; omega
    rw [if_pos hs, if_pos (by omega), if_pos hs]
    simp only [Option.bind_some]
    have e : ((mkS (c :: r)).extract 0 (1 : Int).toNat).toList = [c] := by rw [toList_lst, lst_extract, lst_mkS]; rfl
    rw [e]
    by_cases hc : c = 45
    · subst hc
      rw [if_pos (by rfl), if_pos (by omega), if_pos hs]
      simp only [Option.bind_some, strip, if_true]
      congr 1
      rw [extract_mk, lst_mkS, size_mkS, List.take_of_length_le (Nat.le_refl _)]
      rfl
    · rw [if_neg (by simpa using hc)]
      simp only [Option.bind_some, strip]
      rw [if_neg hc]
theorem valid_loop (s : ByteArray) (hs : s.size ≤ 140737488351232) : ∀ (r pre : Bs), lst s = pre ++ r → Ev (fun k => integer_Valid.l0 k s (s.size : Int) (pre.length : Int)) (r.all isDig) := by
  intro r
  induction r with
  | nil =>
    intro pre h
    have hl : s.size = pre.length := by rw [size_lst, h]; simp
    refine Ev.step (f := fun _ => some true) (fun k => ?_) (Ev.now _)
    simp only [integer_Valid.l0]
    rw [if_neg (by omega)]
  | cons c r ih =>
    intro pre h
    have hl : pre.length < s.size := by rw [size_lst]; exact mid_lt h
    have hb := bt_mid h
    have ih' := ih (pre ++ [c]) (by rw [h]; simp)
    have hw : wrap64 ((pre.length : Int) + 1) = ((pre ++ [c]).length : Int) := by rw [wrap_ok (by omega) (by omega)]; simp
    rw [List.all_cons]
    by_cases hf : isDig c = true
    · have hf' := (isDig_nat c).1 hf
      rw [hf, Bool.true_and]
      refine Ev.step (f := fun k => integer_Valid.l0 k s (s.size : Int) ((pre ++ [c]).length : Int)) (fun k => ?_) ih'
      simp only [integer_Valid.l0]
      rw [if_pos (by omega), if_pos (by omega), if_pos (by omega), hb, hw, if_neg (by omega), if_neg (by omega)]
    · have hf' : ¬ (48 ≤ c.toNat ∧ c.toNat ≤ 57) := fun h => hf ((isDig_nat c).2 h)
      rw [Bool.eq_false_iff.2 hf, Bool.false_and]
      refine Ev.step (f := fun _ => some false) (fun k => ?_) (Ev.now _)
      simp only [integer_Valid.l0]
      rw [if_pos (by omega), if_pos (by omega), if_pos (by omega), hb]
      by_cases h1 : (c.toNat : Int) < 48
      · rw [if_pos h1]
      · rw [if_neg h1, if_pos (by omega)]
theorem valid_ev (s : ByteArray) (hs : s.size ≤ 140737488351232) : Ev (fun k => integer_Valid.f k s) (vB (lst s)) := by
  unfold integer_Valid.f
  rw [trim_prefix]
  refine Ev.congr (fun k => by rw [Option.bind_some]) ?_
  unfold vB
  by_cases h0 : lst s = [48]
  · refine Ev.congr (f := fun _ => some true) (fun k => by rw [toList_lst, if_pos h0]) ?_
    rw [h0]
    exact Ev.now _
  · have h0' : (lst s == [48]) = false := by simpa using h0
    rw [h0', Bool.false_or]
    refine Ev.congr (fun k => by rw [toList_lst, if_neg h0]) ?_
    have hsz : (strip (lst s)).length ≤ 140737488351232 := by
      have h1 : (lst s).length ≤ 140737488351232 := by rw [← size_lst]; exact hs
      cases hl : lst s with
      | nil => simp [strip]
      | cons c r =>
        rw [hl] at h1
        simp only [strip, List.length_cons] at h1 ⊢
        split
        · omega
        · simp only [List.length_cons]; omega
    cases hd : strip (lst s) with
    | nil =>
      refine Ev.congr (f := fun k => integer_Valid.j0 k (mkS []) true) (fun k => by rw [if_pos (by rw [size_mkS]; rfl)]) ?_
      exact Ev.step (f := fun _ => some false) (fun k => by simp only [integer_Valid.j0]; first | rw [if_pos rfl] | rw [if_pos trivial]) (Ev.now _)
    | cons c r =>
      rw [hd] at hsz
      have e1 : ¬ (((mkS (c :: r)).size : Int) = 0) := by rw [size_mkS, List.length_cons]; omega
      refine Ev.congr (fun k => by rw [if_neg e1]) ?_
      by_cases h4 : (c :: r).length ≤ 400
      · have e2 : ¬ (((mkS (c :: r)).size : Int) > 400) := by rw [size_mkS]; omega
        have e3 : 0 < ((mkS (c :: r)).size : Int) := by rw [size_mkS, List.length_cons]; omega
        have e4 : bt (mkS (c :: r)) 0 = (c.toNat : Int) := bt_mid (pre := []) (by rw [lst_mkS]; rfl)
        refine Ev.congr (fun k => by rw [if_neg e2, if_pos e3, e4]) ?_
        dsimp only
        rw [decide_eq_true h4, Bool.true_and]
        by_cases hc : c = 48
        · subst hc
          exact Ev.step (f := fun _ => some false) (fun k => by simp only [integer_Valid.j0]; rw [if_pos (by rfl)]) (Ev.now _)
        · have hc' : ¬ ((c.toNat : Int) == 48) = true := by
            intro e
            have e' : (c.toNat : Int) = 48 := by simpa using e
            exact hc (UInt8.toNat_inj.1 (by have : (48 : UInt8).toNat = 48 := rfl; omega))
          have hc2 : (!(c == 48)) = true := by simpa using hc
          rw [hc2, Bool.true_and]
          refine Ev.step (f := fun k => integer_Valid.l0 k (mkS (c :: r)) ((mkS (c :: r)).size : Int) ((([] : Bs).length : Nat) : Int)) (fun k => by simp only [integer_Valid.j0]; rw [if_neg hc']; rfl) ?_
          exact valid_loop (mkS (c :: r)) (by rw [size_mkS]; exact hsz) (c :: r) [] (by rw [lst_mkS]; rfl)
      · have e2 : ((mkS (c :: r)).size : Int) > 400 := by rw [size_mkS]; omega
        refine Ev.congr (f := fun k => integer_Valid.j0 k (mkS (c :: r)) true) (fun k => by rw [if_pos e2]) ?_
        dsimp only
        rw [decide_eq_false h4, Bool.false_and, Bool.false_and]
        exact Ev.step (f := fun _ => some false) (fun k => by simp only [integer_Valid.j0]; first | rw [if_pos rfl] | rw [if_pos trivial]) (Ev.now _)
end Go.Proofs.YtdnjlmoggnbknaaDoor.PInt
