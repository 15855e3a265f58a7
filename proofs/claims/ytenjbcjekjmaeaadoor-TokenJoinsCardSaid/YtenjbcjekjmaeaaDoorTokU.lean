/- The pure law of TokenScans: the program's Scan and the reference's answer alike for every source of at most 1000 bytes. No condition. -/
import Derived.Test.YtenjbcjekjmaeaaDoorTokT
import Derived.Test.YtenjbcjekjmaeaaDoorTokAwake
namespace Go.Proofs.YtenjbcjekjmaeaaDoor.PTok
open Go.RowKit Go.Proofs.YtenjbcjekjmaeaaDoor.Ext Go.Proofs.YtenjbcjekjmaeaaDoorW.PrintWords
set_option linter.unusedVariables false
set_option linter.unusedSimpArgs false

theorem awake_ev : Ev (fun k => cellarerlaw13_awake.f k) true := Ev.of (fun k => cellarerlaw13_awake.mono k) awake_true
/-- No more tokens and comments than bytes (and the end). -/
theorem scan_len : ∀ (m p : Nat) (l : Bs) (last : Option (Nat × Bs)) (ts : List Tk) (ns : List (Nat × Nat)), scan m p l last = .ok ts ns → ts.length ≤ l.length + 1 ∧ ns.length ≤ l.length := by
  intro m
  induction m with
  | zero =>
    intro p l last ts ns h
    cases l with
    | nil =>
      simp only [scan, Res.ok.injEq] at h
      obtain ⟨rfl, rfl⟩ := h
      simp
    | cons c r => simp [scan] at h
  | succ m ih =>
    intro p l last ts ns h
    cases l with
    | nil =>
      simp only [scan, Res.ok.injEq] at h
      obtain ⟨rfl, rfl⟩ := h
      simp
    | cons c r =>
      simp only [scan] at h
      cases hst : step c r last with
      | white =>
        rw [hst] at h
        have := ih _ _ _ _ _ h
        simp only [List.length_cons]
        omega
      | note n =>
        rw [hst] at h
        simp only at h
        obtain ⟨hn, hc⟩ := step_note hst
        have h1 : 1 ≤ n := by
          rw [hn, List.takeWhile_cons, if_pos (by subst hc; rfl)]
          simp
        cases hr : scan m (p + n) ((c :: r).drop n) last with
        | err o e => rw [hr] at h; simp [Res.addN] at h
        | ok ts' ns' =>
          rw [hr] at h
          simp only [Res.addN, Res.ok.injEq] at h
          obtain ⟨rfl, rfl⟩ := h
          have := ih _ _ _ _ _ hr
          simp only [List.length_drop, List.length_cons] at this ⊢
          omega
      | tok kd n =>
        rw [hst] at h
        simp only at h
        have h1 := step_tok hst
        cases hr : scan m (p + n) ((c :: r).drop n) (some (kd, (c :: r).take n)) with
        | err o e => rw [hr] at h; simp [Res.addT] at h
        | ok ts' ns' =>
          rw [hr] at h
          simp only [Res.addT, Res.ok.injEq] at h
          obtain ⟨rfl, rfl⟩ := h
          have := ih _ _ _ _ _ hr
          simp only [List.length_drop, List.length_cons] at this ⊢
          omega
      | err o e => rw [hst] at h; simp at h
theorem rdS (ts : List Tk) (i : Nat) (h : i < ts.length) : rd_T36 (ts.map toS) (i : Int) = toS ts[i] := by simp [rd_T36, h]
theorem rdR (ts : List Tk) (i : Nat) (h : i < ts.length) : rd_T41 (ts.map toR) (i : Int) = toR ts[i] := by simp [rd_T41, h]
theorem rdP (ns : List (Nat × Nat)) (i : Nat) (h : i < ns.length) : rd_T33 (ns.map toP) (i : Int) = toP ns[i] := by simp [rd_T33, h]
theorem same_loop (ts : List Tk) (hs : ts.length ≤ 65537) : ∀ (d i : Nat), i + d = ts.length → Ev (fun k => cellarerlaw13_same.l0 k (ts.map toS) (ts.map toR) (i : Int)) true := by
  intro d
  induction d with
  | zero =>
    intro i hi
    refine Ev.step (f := fun _ => some true) (fun k => ?_) (Ev.now _)
    simp only [cellarerlaw13_same.l0]
    rw [if_neg (by simp; omega)]
  | succ d ih =>
    intro i hi
    refine Ev.step (f := fun k => cellarerlaw13_same.l0 k (ts.map toS) (ts.map toR) ((i + 1 : Nat) : Int)) (fun k => ?_) (ih (i + 1) (by omega))
    have hl : i < ts.length := by omega
    simp only [cellarerlaw13_same.l0]
    rw [if_pos (by simp; omega), if_pos (by omega), if_pos (by simp; omega), rdS ts i hl, rdR ts i hl, if_pos (by simp [toS, toR]), if_pos (by simp [toS, toR]), if_neg (by simp [toS, toR]), wrap_p1 (by omega)]
theorem same_ev (ts : List Tk) (hs : ts.length ≤ 65537) : Ev (fun k => cellarerlaw13_same.f k (ts.map toS) (ts.map toR)) true := by
  refine Ev.congr (fun k => ?_) (same_loop ts hs ts.length 0 (by omega))
  unfold cellarerlaw13_same.f
  rw [if_pos (by simp)]
  rfl
theorem notes_loop (ns : List (Nat × Nat)) (hs : ns.length ≤ 65536) : ∀ (d i : Nat), i + d = ns.length → Ev (fun k => cellarerlaw13_TokenScans.l0 k (ns.map toP) (ns.map toP) (i : Int)) true := by
  intro d
  induction d with
  | zero =>
    intro i hi
    refine Ev.step (f := fun _ => some true) (fun k => ?_) (Ev.now _)
    simp only [cellarerlaw13_TokenScans.l0]
    rw [if_neg (by simp; omega)]
  | succ d ih =>
    intro i hi
    refine Ev.step (f := fun k => cellarerlaw13_TokenScans.l0 k (ns.map toP) (ns.map toP) ((i + 1 : Nat) : Int)) (fun k => ?_) (ih (i + 1) (by omega))
    have hl : i < ns.length := by omega
    simp only [cellarerlaw13_TokenScans.l0]
    rw [if_pos (by simp; omega), if_pos (by omega), if_pos (by simp; omega), rdP ns i hl, if_neg (by simp), wrap_p1 (by omega)]
/-- What the law compares, where both Scans tell the plain scan's answer. -/
theorem scans_of (s : ByteArray) (hs : s.size ≤ 1000) (b : Out) (c : OutR) (h1 : Ev (fun k => token_Scan.f k s) b) (h2 : Ev (fun k => cellarerref13_Scan.f k s) c) (ts : List Tk) (ns : List (Nat × Nat)) (o e : Int)
    (hb : b = (ts.map toS, ns.map toP, o, e)) (hc : c = (ts.map toR, ns.map toP, o, e)) (ht : ts.length ≤ 65537) (hn : ns.length ≤ 65536) : Ev (fun k => cellarerlaw13_TokenScans.f k s) true := by
  subst hb hc
  unfold cellarerlaw13_TokenScans.f
  refine Ev.bind awake_ev ?_
  refine Ev.congr (fun k => if_pos rfl) ?_
  refine Ev.congr (fun k => if_neg (by omega)) ?_
  refine Ev.bind h1 (Ev.bind h2 ?_)
  refine Ev.congr (fun k => if_pos rfl) ?_
  refine Ev.congr (fun k => if_pos rfl) ?_
  refine Ev.bind (same_ev ts ht) ?_
  refine Ev.congr (fun k => if_pos rfl) ?_
  refine Ev.step (f := fun k => cellarerlaw13_TokenScans.l0 k (ns.map toP) (ns.map toP) 0) (fun k => ?_) (notes_loop ns hn ns.length 0 (by omega))
  simp only [cellarerlaw13_TokenScans.j0]
  rw [if_neg (by simp)]
theorem TokenScans : cellarerlaw13_TokenScans.Pure := by
  intro s hs0
  by_cases hs : s.size ≤ 1000
  · have h1 := token_Scan_ev s (by omega)
    have h2 := cellarerref13_Scan_ev s (by omega)
    refine Ev.rounds (r := true) ?_
    by_cases hbad : bad 0 (lst s) ≥ 0
    · rw [if_pos hbad] at h1 h2
      exact scans_of s hs _ _ h1 h2 [] [] _ _ rfl rfl (by simp) (by simp)
    · rw [if_neg hbad] at h1 h2
      cases hr : scan (lst s).length 0 (lst s) none with
      | err o e =>
        rw [hr] at h1 h2
        exact scans_of s hs _ _ h1 h2 [] [] _ _ rfl rfl (by simp) (by simp)
      | ok ts ns =>
        rw [hr] at h1 h2
        have hl := scan_len _ _ _ _ _ _ hr
        rw [← size_lst] at hl
        exact scans_of s hs _ _ h1 h2 ts ns 0 0 rfl rfl (by omega) (by omega)
  · refine Ev.rounds (r := true) ?_
    unfold cellarerlaw13_TokenScans.f
    refine Ev.bind awake_ev ?_
    refine Ev.congr (f := fun _ => some true) (fun k => ?_) (Ev.now _)
    rw [if_pos rfl, if_pos (by omega)]
end Go.Proofs.YtenjbcjekjmaeaaDoor.PTok
