/- The reference's Scan is the plain scan. No condition but the size. -/
import Derived.Test.YtenjbcjekjmaeaaDoorTokS
namespace Go.Proofs.YtenjbcjekjmaeaaDoor.PTok
open Go.RowKit Go.Proofs.YtenjbcjekjmaeaaDoor.Ext Go.Proofs.YtenjbcjekjmaeaaDoorW.PrintWords
set_option linter.unusedVariables false
set_option linter.unusedSimpArgs false

def toR (t : Tk) : S41 := ⟨t.kd, mkS t.text, toP (t.a, t.b)⟩
abbrev OutR := List S41 × List S33 × Int × Int
def outR (x7 : List S41) (x8 : List S33) : Res → OutR
  | .ok ts ns => (x7 ++ ts.map toR, x8 ++ ns.map toP, 0, 0)
  | .err o c => ([], [], o, c)
theorem outR_addT (x7 : List S41) (x8 : List S33) (t : Tk) (R : Res) : outR x7 x8 (R.addT t) = outR (x7 ++ [toR t]) x8 R := by
  cases R <;> simp [outR, Res.addT]
theorem outR_addN (x7 : List S41) (x8 : List S33) (n : Nat × Nat) (R : Res) : outR x7 x8 (R.addN n) = outR x7 (x8 ++ [toP n]) R := by
  cases R <;> simp [outR, Res.addN]
theorem wrap_p1 {p : Nat} (h : p ≤ 65536) : wrap64 ((p : Int) + 1) = ((p + 1 : Nat) : Int) := by rw [wrap_ok (by omega) (by omega)]; omega
theorem step_kind {c : UInt8} {r : Bs} {last : Option (Nat × Bs)} (hw : isWhite c = false) (hn : (isDash c && headIs isDash r) = false) :
    (∃ o e, step c r last = .err o e ∧ e ≠ 0) ∨ (∃ kd n, step c r last = .tok kd n) := by
  unfold step
  rw [if_neg (by simp [hw]), if_neg (by simp [hn])]
  dsimp only
  repeat' split
  all_goals first
    | exact Or.inl ⟨_, _, rfl, by decide⟩
    | exact Or.inr ⟨_, _, rfl⟩
theorem rnote_ev {s : ByteArray} (hs : s.size ≤ 65536) (x7 : List S41) (x8 : List S33) (h8 : x8.length < 8796093022208) (x10 : Int) (R : OutR) : ∀ (q pre : Bs), lst s = pre ++ q →
    Ev (fun k => cellarerref13_Scan.l1 k s x7 (x8 ++ [(⟨x10, ((pre.length + (q.takeWhile notLf).length : Nat) : Int)⟩ : S33)]) ((pre.length + (q.takeWhile notLf).length : Nat) : Int)) R →
    Ev (fun k => cellarerref13_Scan.l2 k s x7 x8 (pre.length : Int) x10) R := by
  intro q
  induction q with
  | nil =>
    intro pre h hR
    have hl : s.size = pre.length := by rw [size_lst, h]; simp
    refine Ev.step (fun k => ?_) hR
    simp only [cellarerref13_Scan.l2]
    rw [if_neg (by omega), if_pos h8]
    simp
  | cons c r ih =>
    intro pre h hR
    have hl : pre.length < s.size := by rw [size_lst]; exact mid_lt h
    have hb := bt_mid h
    by_cases h10 : c.toNat = 10
    · have hz : ((c :: r).takeWhile notLf).length = 0 := by rw [List.takeWhile_cons, if_neg (by simp [notLf, h10])]; rfl
      rw [hz] at hR
      refine Ev.step (fun k => ?_) hR
      simp only [cellarerref13_Scan.l2]
      rw [if_pos (by omega), if_pos (by omega), hb, if_pos (by omega), if_pos h8]
      simp
    · have hz : ((c :: r).takeWhile notLf).length = (r.takeWhile notLf).length + 1 := by rw [List.takeWhile_cons, if_pos (by simp [notLf, h10])]; rfl
      have e : (pre ++ [c]).length = pre.length + 1 := by simp
      have := ih (pre ++ [c]) (by rw [h]; simp)
      rw [e, show pre.length + 1 + (r.takeWhile notLf).length = pre.length + ((c :: r).takeWhile notLf).length from by rw [hz]; omega] at this
      refine Ev.step (fun k => ?_) (this hR)
      simp only [cellarerref13_Scan.l2]
      rw [if_pos (by omega), if_pos (by omega), hb, if_neg (by omega), wrap_ok (by omega) (by omega)]
      rfl
def GoesR (s : ByteArray) (m : Nat) : Prop := ∀ (r pre : Bs) (x7 : List S41) (x8 : List S33) (last : Option (Nat × Bs)), r.length ≤ m → lst s = pre ++ r → lastR x7 = up last → goodLast last → x7.length ≤ pre.length → x8.length ≤ pre.length →
    Ev (fun k => cellarerref13_Scan.l1 k s x7 x8 (pre.length : Int)) (outR x7 x8 (scan m pre.length r last))
section
variable {s : ByteArray} {m : Nat} {c : UInt8} {r pre : Bs} {x7 : List S41} {x8 : List S33} {last : Option (Nat × Bs)}
theorem rj2_ev (ih : GoesR s m) (hs : s.size ≤ 65536) (hm : (c :: r).length ≤ m + 1) (h : lst s = pre ++ c :: r) (hlast : lastR x7 = up last) (hg : goodLast last) (h7 : x7.length ≤ pre.length) (h8 : x8.length ≤ pre.length) (hw : isWhite c = false) (b : Bool) (hb : b = (isDash c && headIs isDash r)) :
    Ev (fun k => cellarerref13_Scan.j2 k s x7 x8 (pre.length : Int) b) (outR x7 x8 (scan (m + 1) pre.length (c :: r) last)) := by
  have hps : pre.length + r.length + 1 = s.size := by rw [size_lst, h]; simp; omega
  cases b with
  | true =>
    have e : step c r last = .note ((c :: r).takeWhile notLf).length := by unfold step; rw [if_neg (by simp [hw]), if_pos hb.symm]
    have hrl := takeWhile_len notLf (c :: r)
    have hpos : 1 ≤ ((c :: r).takeWhile notLf).length := by
      have hb' := hb.symm
      simp only [Bool.and_eq_true, isDash, decide_eq_true_eq] at hb'
      rw [List.takeWhile_cons, if_pos (by simp [notLf]; omega)]
      simp
    simp only [scan, e]
    rw [outR_addN]
    have hl2 : ((c :: r).take ((c :: r).takeWhile notLf).length).length = ((c :: r).takeWhile notLf).length := by rw [List.length_take]; omega
    have e2 : pre.length + ((c :: r).takeWhile notLf).length = (pre ++ (c :: r).take ((c :: r).takeWhile notLf).length).length := by rw [List.length_append, hl2]
    have := ih ((c :: r).drop ((c :: r).takeWhile notLf).length) (pre ++ (c :: r).take ((c :: r).takeWhile notLf).length) x7 (x8 ++ [toP (pre.length, pre.length + ((c :: r).takeWhile notLf).length)]) last
      (by rw [List.length_drop]; omega) (by rw [h, List.append_assoc, List.take_append_drop]) hlast hg (by rw [← e2]; omega) (by rw [← e2]; simp only [List.length_append, List.length_cons, List.length_nil]; omega)
    rw [← e2] at this
    have hn := rnote_ev hs x7 x8 (small9 (by omega)) (pre.length : Int) _ (c :: r) pre h this
    refine Ev.step (fun k => ?_) hn
    simp only [cellarerref13_Scan.j2]
    rw [if_pos trivial]
  | false =>
    have hx := rnext_ev hs h hw hb.symm x7 last hlast hg (by omega)
    refine Ev.step (f := fun k => (cellarerref13_next.f k s (pre.length : Int) x7).bind fun bt265 => (if bt265.2.2.2.2.2 = 0 then (if x7.length < 3518437208883 then (cellarerref13_Scan.l1 k s (x7 ++ [(⟨bt265.1, bt265.2.1, (⟨bt265.2.2.1, bt265.2.2.2.1⟩ : S33)⟩ : S41)]) x8 bt265.2.2.2.1) else (none)) else (some (([] : List (S41)), ([] : List (S33)), bt265.2.2.2.2.1, bt265.2.2.2.2.2)))) (fun k => ?_) (Ev.bind hx ?_)
    · simp only [cellarerref13_Scan.j2]
      rw [if_neg (by simp)]
    · rcases step_kind (last := last) hw hb.symm with ⟨o, e, hst, he⟩ | ⟨kd, n, hst⟩
      · rw [hst]
        simp only [scan, hst, outR]
        refine Ev.congr (f := fun _ => some _) (fun k => ?_) (Ev.now _)
        exact if_neg (show ¬ ((e : Nat) : Int) = 0 from by omega)
      · obtain ⟨h1, h2⟩ := step_tok hst
        have h7s : x7.length < 3518437208883 := small8 (by omega)
        have hl : ((c :: r).take n).length = n := by simp; omega
        have e : pre.length + n = (pre ++ (c :: r).take n).length := by rw [List.length_append, hl]
        have := ih ((c :: r).drop n) (pre ++ (c :: r).take n) (x7 ++ [toR ⟨kd, (c :: r).take n, pre.length, pre.length + n⟩]) x8 (some (kd, (c :: r).take n)) (by simp at hm ⊢; omega)
          (by rw [h, List.append_assoc, List.take_append_drop]) (by simp [lastR, up, toR]) (good_tok hst) (by rw [← e]; simp; omega) (by rw [← e]; omega)
        rw [← e] at this
        rw [hst]
        simp only [scan, hst]
        rw [outR_addT]
        refine Ev.congr (fun k => ?_) this
        exact (if_pos rfl).trans (if_pos h7s)
end
section
variable (k : Nat) (s : ByteArray) (x7 : List S41) (x8 : List S33) {p e1 e2 : Int} {c : UInt8}
theorem l1_head (hb : bt s p = (c.toNat : Int)) (h0 : 0 ≤ p) (h1 : p < (s.size : Int)) : cellarerref13_Scan.l1 (k + 1) s x7 x8 p = (if isWhite c = true then (cellarerref13_Scan.l1 k s x7 x8 (wrap64 (p + 1))) else (if (wrap64 (p + 1)) < (s.size : Int) then (if p ≤ (wrap64 (p + 2)) then (if (wrap64 (p + 2)) ≤ (s.size : Int) then (cellarerref13_Scan.j2 k s x7 x8 p ((s.extract (p : Int).toNat ((wrap64 (p + 2)) : Int).toNat).toList == ([45, 45] : List UInt8))) else (none)) else (none)) else (cellarerref13_Scan.j2 k s x7 x8 p false))) := by
  simp only [cellarerref13_Scan.l1]
  rw [if_pos h1, if_pos h0, hb, rwhite_eq]
  rfl
theorem l1_white (hb : bt s p = (c.toNat : Int)) (h0 : 0 ≤ p) (h1 : p < (s.size : Int)) (hw : isWhite c = true) : cellarerref13_Scan.l1 (k + 1) s x7 x8 p = cellarerref13_Scan.l1 k s x7 x8 (wrap64 (p + 1)) := by
  rw [l1_head k s x7 x8 hb h0 h1, if_pos hw]
theorem l1_last (hb : bt s p = (c.toNat : Int)) (h0 : 0 ≤ p) (h1 : p < (s.size : Int)) (hw : ¬ isWhite c = true) (he1 : wrap64 (p + 1) = e1) (h2 : ¬ e1 < (s.size : Int)) : cellarerref13_Scan.l1 (k + 1) s x7 x8 p = cellarerref13_Scan.j2 k s x7 x8 p false := by
  subst he1
  rw [l1_head k s x7 x8 hb h0 h1, if_neg hw, if_neg h2]
theorem l1_two (hb : bt s p = (c.toNat : Int)) (h0 : 0 ≤ p) (h1 : p < (s.size : Int)) (hw : ¬ isWhite c = true) (he1 : wrap64 (p + 1) = e1) (h2 : e1 < (s.size : Int)) (he2 : wrap64 (p + 2) = e2) (h3 : p ≤ e2) (h4 : e2 ≤ (s.size : Int)) :
    cellarerref13_Scan.l1 (k + 1) s x7 x8 p = cellarerref13_Scan.j2 k s x7 x8 p ((s.extract p.toNat e2.toNat).toList == ([45, 45] : List UInt8)) := by
  subst he1 he2
  rw [l1_head k s x7 x8 hb h0 h1, if_neg hw, if_pos h2, if_pos h3, if_pos h4]
end
theorem goesR (s : ByteArray) (hs : s.size ≤ 65536) : ∀ m, GoesR s m := by
  intro m
  induction m with
  | zero =>
    intro r pre x7 x8 last hm h hlast hg h7 h8
    obtain rfl : r = [] := List.eq_nil_of_length_eq_zero (by omega)
    have hl : s.size = pre.length := by rw [size_lst, h]; simp
    refine Ev.step (f := fun _ => some (outR x7 x8 (scan 0 pre.length [] last))) (fun k => ?_) (Ev.now _)
    simp only [cellarerref13_Scan.l1]
    rw [if_neg (by omega), if_pos (small8 (by omega))]
    simp [scan, outR, toR, toP, mkS]
  | succ m ih =>
    intro r pre x7 x8 last hm h hlast hg h7 h8
    cases r with
    | nil =>
      have hl : s.size = pre.length := by rw [size_lst, h]; simp
      refine Ev.step (f := fun _ => some (outR x7 x8 (scan (m + 1) pre.length [] last))) (fun k => ?_) (Ev.now _)
      simp only [cellarerref13_Scan.l1]
      rw [if_neg (by omega), if_pos (small8 (by omega))]
      simp [scan, outR, toR, toP, mkS]
    | cons c r =>
      have hb := bt_mid h
      have hps : pre.length + r.length + 1 = s.size := by rw [size_lst, h]; simp; omega
      have hp0 : (0 : Int) ≤ (pre.length : Int) := by omega
      have hp1 : (pre.length : Int) < (s.size : Int) := by omega
      have hp2 : pre.length ≤ 65536 := by omega
      have h71 : x7.length ≤ (pre ++ [c]).length := by rw [List.length_append]; exact Nat.le_add_right_of_le h7
      have h81 : x8.length ≤ (pre ++ [c]).length := by rw [List.length_append]; exact Nat.le_add_right_of_le h8
      by_cases hwc : isWhite c = true
      · have := ih r (pre ++ [c]) x7 x8 last (by simpa using hm) (by rw [h]; simp) hlast hg h71 h81
        have e : step c r last = .white := by unfold step; rw [if_pos hwc]
        simp only [scan, e]
        rw [show (pre ++ [c]).length = pre.length + 1 by simp] at this
        refine Ev.step (fun k => ?_) this
        rw [l1_white k s x7 x8 hb hp0 hp1 hwc, wrap_p1 hp2]
      · have hwf := Bool.eq_false_iff.mpr hwc
        refine Ev.step (fun k => ?_) (rj2_ev ih hs hm h hlast hg h7 h8 hwf _ rfl)
        cases r with
        | nil =>
          simp only [List.length_nil] at hps
          have hlast2 : ¬ ((pre.length + 1 : Nat) : Int) < (s.size : Int) := by omega
          rw [l1_last k s x7 x8 hb hp0 hp1 hwc (wrap_p1 hp2) hlast2]
          simp [headIs]
        | cons d q =>
          simp only [List.length_cons] at hps
          have ht1 : ((pre.length + 1 : Nat) : Int) < (s.size : Int) := by omega
          have ht2 : (pre.length : Int) ≤ ((pre.length + 2 : Nat) : Int) := by omega
          have ht3 : ((pre.length + 2 : Nat) : Int) ≤ (s.size : Int) := by omega
          rw [l1_two k s x7 x8 hb hp0 hp1 hwc (wrap_p1 hp2) ht1 (wrap_p2 hp2) ht2 ht3, cut_mid h, toList_lst, lst_mkS]
          congr 1
          rw [Bool.eq_iff_iff]
          simp only [List.take_succ_cons, List.take_zero, beq_iff_eq, List.cons.injEq, and_true, Bool.and_eq_true, isDash, headIs, decide_eq_true_eq]
          have e (x : UInt8) : x = 45 ↔ x.toNat = 45 := ⟨fun h => by rw [h]; rfl, fun h => UInt8.toNat_inj.1 h⟩
          rw [e, e]
theorem rbad_ev (s : ByteArray) (hs : s.size ≤ 65536) (R : OutR) (hR : Ev (fun k => cellarerref13_Scan.l1 k s [] [] 0) R) : ∀ (r pre : Bs), lst s = pre ++ r →
    Ev (fun k => cellarerref13_Scan.l0 k s (pre.length : Int)) (if bad pre.length r ≥ 0 then ([], [], bad pre.length r, 25) else R) := by
  intro r
  induction r with
  | nil =>
    intro pre h
    have hl : s.size = pre.length := by rw [size_lst, h]; simp
    rw [if_neg (by simp [bad])]
    refine Ev.step (fun k => ?_) hR
    simp only [cellarerref13_Scan.l0]
    rw [if_neg (by omega)]
  | cons c r ih =>
    intro pre h
    have hl : pre.length < s.size := by rw [size_lst]; exact mid_lt h
    have hb := bt_mid h
    have ih' := ih (pre ++ [c]) (by rw [h]; simp)
    have e : (pre ++ [c]).length = pre.length + 1 := by simp
    rw [e] at ih'
    have hp2 : pre.length ≤ 65536 := by omega
    have hc := c.toNat_lt
    have hwhite : isWhite c = true ↔ (c.toNat = 32 ∨ c.toNat = 9 ∨ c.toNat = 13 ∨ c.toNat = 10) := by simp [isWhite]
    by_cases hf : isFine c = true
    · have hf' := hf
      simp only [isFine, decide_eq_true_eq] at hf'
      have eb : bad pre.length (c :: r) = bad (pre.length + 1) r := by simp only [bad, if_pos hf]
      rw [eb]
      refine Ev.step (fun k => ?_) ih'
      simp only [cellarerref13_Scan.l0]
      rw [if_pos (by omega), if_pos (by omega), hb, rwhite_eq, wrap_p1 hp2]
      simp only [Option.bind_some]
      by_cases hwc : isWhite c = true
      · rw [if_pos hwc]
      · rw [if_neg hwc]
        rw [hwhite] at hwc
        rw [if_neg (by omega), if_neg (by omega)]
    · have hf' := hf
      simp only [isFine, decide_eq_true_eq] at hf'
      have eb : bad pre.length (c :: r) = (pre.length : Int) := by simp only [bad, if_neg hf]
      rw [eb, if_pos (by omega)]
      refine Ev.step (f := fun _ => some (([] : List S41), ([] : List S33), (pre.length : Int), 25)) (fun k => ?_) (Ev.now _)
      simp only [cellarerref13_Scan.l0]
      rw [if_pos (by omega), if_pos (by omega), hb, rwhite_eq]
      simp only [Option.bind_some]
      rw [if_neg (by rw [hwhite]; omega)]
      by_cases hlo : (c.toNat : Int) < 32
      · rw [if_pos hlo]
      · rw [if_neg hlo, if_pos (by omega)]
/-- Scan of the reference. -/
theorem cellarerref13_Scan_ev (s : ByteArray) (hs : s.size ≤ 65536) : Ev (fun k => cellarerref13_Scan.f k s) (if bad 0 (lst s) ≥ 0 then ([], [], bad 0 (lst s), 25) else outR [] [] (scan (lst s).length 0 (lst s) none)) := by
  have hR := goesR s hs (lst s).length (lst s) [] [] [] none (Nat.le_refl _) rfl rfl trivial (by simp) (by simp)
  have := rbad_ev s hs _ hR (lst s) [] rfl
  refine Ev.congr (fun k => ?_) this
  unfold cellarerref13_Scan.f
  rw [if_neg (by omega)]
  rfl
end Go.Proofs.YtenjbcjekjmaeaaDoor.PTok
