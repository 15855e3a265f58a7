/- What the reference's Scan computes: the plain scan, or the first wrong byte, or the error. No condition but the size. -/
import Derived.Test.YtenjbcjekjmaeaaDoorTokM
namespace Go.Proofs.YtenjbcjekjmaeaaDoor.PTok
open Go.RowKit Go.Proofs.YtenjbcjekjmaeaaDoor.Ext Go.Proofs.YtenjbcjekjmaeaaDoorW.PrintWords
set_option linter.unusedVariables false
set_option linter.unusedSimpArgs false

theorem rwhite_eq (c : UInt8) : cellarerref13_white.f (c.toNat : Int) = some (isWhite c) := by
  unfold cellarerref13_white.f isWhite
  split
  · rename_i h; rw [show decide (c.toNat = 32 ∨ c.toNat = 9 ∨ c.toNat = 13 ∨ c.toNat = 10) = true from by simp; omega]
  · split
    · rename_i h; rw [show decide (c.toNat = 32 ∨ c.toNat = 9 ∨ c.toNat = 13 ∨ c.toNat = 10) = true from by simp; omega]
    · split
      · rename_i h; rw [show decide (c.toNat = 32 ∨ c.toNat = 9 ∨ c.toNat = 13 ∨ c.toNat = 10) = true from by simp; omega]
      · congr 1
        rw [Bool.eq_iff_iff]
        simp only [beq_iff_eq, decide_eq_true_eq]
        omega
theorem rdigit_eq (c : UInt8) : cellarerref13_digit.f (c.toNat : Int) = some (isDig c) := digit_eq c
theorem rupper_eq (c : UInt8) : cellarerref13_upper.f (c.toNat : Int) = some (isUp c) := by
  unfold cellarerref13_upper.f isUp
  split
  · rw [show decide (65 ≤ c.toNat) = true from by simp; omega]
    simp
    omega
  · rw [show decide (65 ≤ c.toNat) = false from by simp; omega]
    rfl
theorem rpart_eq (c : UInt8) : cellarerref13_part.f (c.toNat : Int) = some (isName c) := by
  unfold cellarerref13_part.f
  rw [rdigit_eq, rupper_eq]
  simp only [Option.bind_some]
  have e : isName c = nameB c.toNat := rfl
  rw [e]
  unfold nameB isDig isUp
  split
  · rename_i h
    congr 1
    rw [Bool.eq_iff_iff]
    simp at h ⊢
    omega
  · split
    · rename_i h1 h
      congr 1
      rw [Bool.eq_iff_iff]
      simp at h ⊢
      omega
    · rename_i h1 h2
      simp at h1 h2
      split
      · split
        · congr 1
          rw [Bool.eq_iff_iff]
          simp
          omega
        · congr 1
          rw [Bool.eq_iff_iff]
          simp
          omega
      · congr 1
        rw [Bool.eq_iff_iff]
        simp
        omega
theorem in_ev (t : ByteArray) (L : List ByteArray) (hL : L.length ≤ 100) : Ev (fun k => cellarerref13_in.f k L t) ((L.map lst).contains (lst t)) := by
  have key : ∀ (q m1 : List ByteArray), L = m1 ++ q → Ev (fun k => cellarerref13_in.l0 k L t (m1.length : Int)) ((q.map lst).contains (lst t)) := by
    intro q
    induction q with
    | nil =>
      intro m1 h
      have : L.length = m1.length := by rw [h]; simp
      refine Ev.step (f := fun _ => some false) (fun k => ?_) (by simpa using Ev.now false)
      simp only [cellarerref13_in.l0]
      rw [if_neg (by omega)]
    | cons d q ih =>
      intro m1 h
      have hl : m1.length < L.length := by rw [h]; simp
      have hr : rdOf ByteArray.empty L (m1.length : Int) = d := by simp [rdOf, h]
      have hw : wrap64 ((m1.length : Int) + 1) = ((m1 ++ [d]).length : Int) := by rw [wrap_ok (by omega) (by omega)]; simp
      have i := ih (m1 ++ [d]) (by rw [h]; simp)
      by_cases he : lst d = lst t
      · have e2 : ((d :: q).map lst).contains (lst t) = true := by simp [he]
        rw [e2]
        refine Ev.step (f := fun _ => some true) (fun k => ?_) (Ev.now _)
        simp only [cellarerref13_in.l0]
        rw [if_pos (by omega), if_pos (by omega), hr, toList_lst, toList_lst, if_pos he]
      · have e2 : ((d :: q).map lst).contains (lst t) = (q.map lst).contains (lst t) := by
          rw [List.map_cons, List.contains_cons]
          have : (lst t == lst d) = false := by simpa using fun e => he e.symm
          rw [this, Bool.false_or]
        rw [e2]
        refine Ev.step (fun k => ?_) i
        simp only [cellarerref13_in.l0]
        rw [if_pos (by omega), if_pos (by omega), hr, toList_lst, toList_lst, if_neg he, hw]
  exact key L [] rfl
theorem rkw_ev (t : ByteArray) : Ev (fun k => cellarerref13_Keyword.f k t) (kws.contains (lst t)) := by
  have := in_ev t ([(⟨#[109, 111, 100, 117, 108, 101]⟩ : ByteArray), (⟨#[105, 109, 112, 111, 114, 116]⟩ : ByteArray), (⟨#[100, 97, 116, 97]⟩ : ByteArray), (⟨#[102, 117, 110]⟩ : ByteArray), (⟨#[114, 101, 97, 100]⟩ : ByteArray), (⟨#[108, 101, 116]⟩ : ByteArray), (⟨#[105, 110]⟩ : ByteArray), (⟨#[105, 102]⟩ : ByteArray), (⟨#[116, 104, 101, 110]⟩ : ByteArray), (⟨#[101, 108, 115, 101]⟩ : ByteArray), (⟨#[109, 97, 116, 99, 104]⟩ : ByteArray), (⟨#[118, 105, 101, 119]⟩ : ByteArray), (⟨#[119, 105, 116, 104]⟩ : ByteArray), (⟨#[101, 110, 100]⟩ : ByteArray), (⟨#[99, 111, 112, 121]⟩ : ByteArray)] : List ByteArray) (by simp)
  refine Ev.congr (f := fun k => (cellarerref13_in.f k _ t).bind fun t216 => some t216) (fun k => rfl) (Ev.bind this ?_)
  exact Ev.now _
theorem rrun_ev (s : ByteArray) (hs : s.size ≤ 65536) (b : Bool) : ∀ (q pre : Bs), lst s = pre ++ q → Ev (fun k => cellarerref13_run.l0 k s (pre.length : Int) b) ((pre.length + (q.takeWhile (if b then isDig else isName)).length : Nat) : Int) := by
  intro q
  induction q with
  | nil =>
    intro pre h
    have hl : s.size = pre.length := by rw [size_lst, h]; simp
    refine Ev.step (f := fun _ => some (pre.length : Int)) (fun k => ?_) (by simpa using Ev.now (pre.length : Int))
    simp only [cellarerref13_run.l0]
    rw [if_neg (by omega)]
  | cons d q ih =>
    intro pre h
    have hl : pre.length < s.size := by rw [size_lst]; exact mid_lt h
    have hb := bt_mid h
    have hw : wrap64 ((pre.length : Int) + 1) = ((pre ++ [d]).length : Int) := by rw [wrap_ok (by omega) (by omega)]; simp
    have i := ih (pre ++ [d]) (by rw [h]; simp)
    have head : ∀ k, cellarerref13_run.l0 (k + 1) s (pre.length : Int) b = if (if b then isDig else isName) d = true then cellarerref13_run.l0 k s ((pre ++ [d]).length : Int) b else some (pre.length : Int) := by
      intro k
      simp only [cellarerref13_run.l0]
      cases b with
      | true => rw [if_pos (by omega), if_pos rfl, if_pos (by omega), hb, rdigit_eq, hw]; rfl
      | false => rw [if_pos (by omega), if_neg (by simp), if_pos (by omega), hb, rpart_eq, hw]; rfl
    by_cases hn : (if b then isDig else isName) d = true
    · rw [List.takeWhile_cons, if_pos hn]
      have e : (pre ++ [d]).length + (q.takeWhile (if b then isDig else isName)).length = pre.length + (d :: q.takeWhile (if b then isDig else isName)).length := by simp; omega
      rw [e] at i
      exact Ev.step (fun k => by rw [head k, if_pos hn]) i
    · rw [List.takeWhile_cons, if_neg hn]
      refine Ev.step (f := fun _ => some (pre.length : Int)) (fun k => by rw [head k, if_neg hn]) (by simpa using Ev.now (pre.length : Int))
/-- The texts of punctuation. -/
def signs : List Bs := [[60], [60, 61], [61, 61], [43], [45], [42], [47], [37], [40], [44], [124], [45, 62], [61], [41], [58], [95]]
def goodLast : Option (Nat × Bs) → Prop
  | none => True
  | some (kd, t) => kd = 4 → t ∈ signs
theorem punct_sign {l : Bs} {n : Nat} (h : punct l = n + 1) : l.take (n + 1) ∈ signs := by
  unfold punct at h
  split at h
  · rename_i h2
    obtain rfl : n = 1 := by omega
    have : l.take 2 ∈ twos := by simpa using h2
    simp only [twos, List.mem_cons, List.not_mem_nil, or_false] at this
    rcases this with e | e | e <;> (show l.take 2 ∈ signs; rw [e]; simp [signs])
  · cases l with
    | nil => simp at h
    | cons c r =>
      simp only at h
      split at h
      · rename_i h2
        obtain rfl : n = 0 := by omega
        have hm : c ∈ ones := by simpa using h2
        simp only [ones, List.mem_cons, List.not_mem_nil, or_false] at hm
        show [c] ∈ signs
        rcases hm with e | e | e | e | e | e | e | e | e | e | e | e | e <;> (rw [e]; simp [signs])
      · omega
theorem good_tok {c : UInt8} {r : Bs} {last : Option (Nat × Bs)} {kd n : Nat} (h : step c r last = .tok kd n) : goodLast (some (kd, (c :: r).take n)) := by
  intro hk
  subst hk
  unfold step at h
  split at h
  · cases h
  · split at h
    · cases h
    · split at h
      · dsimp only at h
        split at h
        · cases h
        · injection h with h1 h2
          split at h1
          · cases h1
          · split at h1 <;> cases h1
      · split at h
        · dsimp only at h
          split at h
          · cases h
          · split at h
            · cases h
            · cases h
        · split at h
          · cases h
          · split at h
            · cases h
            · rename_i n0 hp
              injection h with _ h
              subst h
              exact punct_sign hp
def lastR (x : List S41) : Option (Int × Bs) := x.getLast?.map fun t => (t.f0, lst t.f1)
theorem rsigned_ev (x : List S41) (last : Option (Nat × Bs)) (h : lastR x = up last) (hg : goodLast last) (hl : x.length ≤ 100000) : Ev (fun k => cellarerref13_signed.f k x) (sgn last) := by
  rcases List.eq_nil_or_concat x with rfl | ⟨y, z, rfl⟩
  · cases last with
    | none => exact Ev.congr (f := fun _ => some true) (fun k => rfl) (Ev.now _)
    | some q => simp [lastR, up] at h
  · rw [List.concat_eq_append] at h hl ⊢
    rw [List.length_append] at hl
    simp only [List.length_singleton] at hl
    have hw : wrap64 (((y ++ [z]).length : Int) - 1) = (y.length : Int) := by rw [wrap_ok (by simp) (by simp; omega)]; simp
    have hr : rd_T41 (y ++ [z]) (y.length : Int) = z := by simp [rd_T41]
    cases last with
    | none => simp [lastR, up] at h
    | some q =>
      simp only [lastR, up, List.getLast?_concat, Option.map_some, Option.some.injEq, Prod.mk.injEq] at h
      obtain ⟨kd, t⟩ := q
      have head : ∀ k, cellarerref13_signed.f k (y ++ [z]) = if kd = 5 then some true else if kd = 4 then ((cellarerref13_in.f k (([(⟨#[60]⟩ : ByteArray), (⟨#[60, 61]⟩ : ByteArray), (⟨#[61, 61]⟩ : ByteArray), (⟨#[43]⟩ : ByteArray), (⟨#[45]⟩ : ByteArray), (⟨#[42]⟩ : ByteArray), (⟨#[47]⟩ : ByteArray), (⟨#[37]⟩ : ByteArray), (⟨#[40]⟩ : ByteArray), (⟨#[44]⟩ : ByteArray), (⟨#[124]⟩ : ByteArray), (⟨#[45, 62]⟩ : ByteArray), (⟨#[61]⟩ : ByteArray)] : List ByteArray)) z.f1).bind fun t223 => (some t223)) else some false := by
        intro k
        unfold cellarerref13_signed.f
        rw [hw, hr, if_neg (by simp; omega), if_pos (by omega), if_pos (by simp; omega), h.1]
        by_cases h5 : kd = 5
        · rw [if_pos (by omega), if_pos h5]
        · rw [if_neg (by omega), if_neg h5]
          by_cases h4 : kd = 4
          · rw [if_pos (by omega), if_pos h4]
          · rw [if_neg (by omega), if_neg h4]
      refine Ev.congr head ?_
      by_cases h5 : kd = 5
      · subst h5
        exact Ev.congr (f := fun _ => some true) (fun k => if_pos rfl) (by simpa [sgn] using Ev.now true)
      · by_cases h4 : kd = 4
        · subst h4
          have hm := hg rfl
          refine Ev.congr (f := fun k => (cellarerref13_in.f k _ z.f1).bind fun t223 => some t223) (fun k => by rw [if_neg (by omega), if_pos rfl]) (Ev.bind (in_ev z.f1 _ (by simp)) ?_)
          refine Ev.congr (f := fun _ => some (sgn (some (4, t)))) (fun k => ?_) (Ev.now _)
          rw [h.2]
          simp only [signs, List.mem_cons, List.not_mem_nil, or_false] at hm
          rcases hm with e | e | e | e | e | e | e | e | e | e | e | e | e | e | e | e <;> (subst e; rfl)
        · refine Ev.congr (f := fun _ => some false) (fun k => by rw [if_neg h5, if_neg h4]) ?_
          have : sgn (some (kd, t)) = false := by simp [sgn, h4, h5]
          rw [this]
          exact Ev.now _

/-! punctuation and the next token -/
abbrev onesB : List ByteArray := ([(⟨#[40]⟩ : ByteArray), (⟨#[41]⟩ : ByteArray), (⟨#[44]⟩ : ByteArray), (⟨#[124]⟩ : ByteArray), (⟨#[61]⟩ : ByteArray), (⟨#[58]⟩ : ByteArray), (⟨#[60]⟩ : ByteArray), (⟨#[43]⟩ : ByteArray), (⟨#[45]⟩ : ByteArray), (⟨#[42]⟩ : ByteArray), (⟨#[47]⟩ : ByteArray), (⟨#[37]⟩ : ByteArray), (⟨#[95]⟩ : ByteArray)] : List ByteArray)
abbrev twosB : List ByteArray := ([(⟨#[61, 61]⟩ : ByteArray), (⟨#[45, 62]⟩ : ByteArray), (⟨#[60, 61]⟩ : ByteArray)] : List ByteArray)
theorem cut_mid {s : ByteArray} {pre q : Bs} (h : lst s = pre ++ q) (n : Nat) : s.extract (pre.length : Int).toNat (((pre.length + n : Nat) : Int)).toNat = mkS (q.take n) := by
  rw [extract_mk, h, Int.toNat_natCast, Int.toNat_natCast]
  congr 1
  rw [List.take_append, Nat.add_sub_cancel_left, List.take_of_length_le (by omega), List.drop_left]
theorem ones_contains (c : UInt8) : (onesB.map lst).contains [c] = ones.contains c := by
  show ([[40], [41], [44], [124], [61], [58], [60], [43], [45], [42], [47], [37], [95]] : List Bs).contains [c] = _
  rw [Bool.eq_iff_iff, List.contains_iff_mem, List.contains_iff_mem]
  simp only [List.mem_cons, List.not_mem_nil, or_false, List.cons.injEq, and_true, ones]
theorem take1 (c : UInt8) (r : Bs) : (c :: r).take 1 = [c] := by simp
theorem take0 (q : Bs) : mkS (q.take 0) = ⟨#[]⟩ := by simp [mkS]
theorem punct_cons (c : UInt8) (r : Bs) : punct (c :: r) = if twos.contains ((c :: r).take 2) = true then 2 else if ones.contains c = true then 1 else 0 := by unfold punct; simp only
theorem twos_contains (q : Bs) : (twosB.map lst).contains q = twos.contains q := by
  have e : twosB.map lst = twos := by decide
  rw [e]
theorem rsign_j1 {s : ByteArray} {c : UInt8} {r pre : Bs} (h : lst s = pre ++ c :: r) (hs : s.size ≤ 65536) (h2 : 2 ≤ r.length + 1) : Ev (fun k => cellarerref13_sign.j0 k s (pre.length : Int) onesB true) (mkS ((c :: r).take 2)) := by
  have hps : s.size = pre.length + (r.length + 1) := by rw [size_lst, h]; simp
  have hw2 : wrap64 ((pre.length : Int) + 2) = ((pre.length + 2 : Nat) : Int) := by rw [wrap_ok (by omega) (by omega)]; omega
  refine Ev.step (f := fun _ => some (mkS ((c :: r).take 2))) (fun k => ?_) (Ev.now _)
  simp only [cellarerref13_sign.j0]
  rw [if_pos trivial, if_pos (by omega), hw2, if_pos (by omega), if_pos (by omega), cut_mid h]
theorem rsign_j2 {s : ByteArray} {c : UInt8} {r pre : Bs} (h : lst s = pre ++ c :: r) (hs : s.size ≤ 65536) : Ev (fun k => cellarerref13_sign.j0 k s (pre.length : Int) onesB false) (mkS ((c :: r).take (if ones.contains c = true then 1 else 0))) := by
  have hps : s.size = pre.length + (r.length + 1) := by rw [size_lst, h]; simp
  have hw1 : wrap64 ((pre.length : Int) + 1) = ((pre.length + 1 : Nat) : Int) := by rw [wrap_ok (by omega) (by omega)]; omega
  have h1 := in_ev (mkS [c]) onesB (by simp)
  rw [lst_mkS, ones_contains] at h1
  refine Ev.step (f := fun k => (cellarerref13_in.f k onesB (mkS [c])).bind fun t238 => (if t238 = true then (some (mkS [c])) else (some (⟨#[]⟩ : ByteArray)))) (fun k => ?_) (Ev.bind h1 ?_)
  · simp only [cellarerref13_sign.j0]
    rw [if_neg (by simp), if_pos (by omega), hw1, if_pos (by omega), if_pos (by omega), cut_mid h, take1]
  · by_cases ho : ones.contains c = true
    · rw [if_pos ho, if_pos ho, take1]
      exact Ev.now _
    · rw [if_neg ho, if_neg ho, take0]
      exact Ev.now _
theorem rsign_f1 (k : Nat) (s : ByteArray) (p e : Int) (he : wrap64 (p + 2) = e) (h1 : e ≤ (s.size : Int)) (h2 : 0 ≤ p) (h3 : p ≤ e) :
    cellarerref13_sign.f k s p = (cellarerref13_in.f k twosB (s.extract p.toNat e.toNat)).bind fun t237 => (cellarerref13_sign.j0 k s p onesB t237) := by
  subst he
  exact (if_pos h1).trans ((if_pos h2).trans (if_pos h3))
theorem rsign_f2 (k : Nat) (s : ByteArray) (p e : Int) (he : wrap64 (p + 2) = e) (h1 : ¬ e ≤ (s.size : Int)) :
    cellarerref13_sign.f k s p = cellarerref13_sign.j0 k s p onesB false := by
  subst he
  exact if_neg h1
theorem wrap_p2 {p : Nat} (h : p ≤ 65536) : wrap64 ((p : Int) + 2) = ((p + 2 : Nat) : Int) := by rw [wrap_ok (by omega) (by omega)]; omega
theorem rsign_long {s : ByteArray} {c : UInt8} {r pre : Bs} (h : lst s = pre ++ c :: r) (hs : s.size ≤ 65536) (hle : 2 ≤ r.length + 1) (k : Nat) :
    cellarerref13_sign.f k s (pre.length : Int) = (cellarerref13_in.f k twosB (mkS ((c :: r).take 2))).bind fun t237 => (cellarerref13_sign.j0 k s (pre.length : Int) onesB t237) := by
  have hps : s.size = pre.length + (r.length + 1) := by rw [size_lst, h]; simp
  have h0 : pre.length ≤ 65536 := by omega
  have h1 : ((pre.length + 2 : Nat) : Int) ≤ (s.size : Int) := by omega
  rw [rsign_f1 k s _ _ (wrap_p2 h0) h1 (by omega) (by omega), cut_mid h]
theorem rsign_short {s : ByteArray} {c : UInt8} {r pre : Bs} (h : lst s = pre ++ c :: r) (hs : s.size ≤ 65536) (hle : ¬ 2 ≤ r.length + 1) (k : Nat) :
    cellarerref13_sign.f k s (pre.length : Int) = cellarerref13_sign.j0 k s (pre.length : Int) onesB false := by
  have hps : s.size = pre.length + (r.length + 1) := by rw [size_lst, h]; simp
  have h0 : pre.length ≤ 65536 := by omega
  have h1 : ¬ ((pre.length + 2 : Nat) : Int) ≤ (s.size : Int) := by omega
  exact rsign_f2 k s _ _ (wrap_p2 h0) h1
theorem rsign_ev {s : ByteArray} (hs : s.size ≤ 65536) {c : UInt8} {r pre : Bs} (h : lst s = pre ++ c :: r) : Ev (fun k => cellarerref13_sign.f k s (pre.length : Int)) (mkS ((c :: r).take (punct (c :: r)))) := by
  rw [punct_cons]
  by_cases hle : 2 ≤ r.length + 1
  · have h2 := in_ev (mkS ((c :: r).take 2)) twosB (by simp)
    rw [lst_mkS, twos_contains] at h2
    refine Ev.congr (rsign_long h hs hle) (Ev.bind h2 ?_)
    by_cases ht : twos.contains ((c :: r).take 2) = true
    · rw [if_pos ht, ht]
      exact rsign_j1 h hs hle
    · rw [if_neg ht, Bool.eq_false_iff.mpr ht]
      exact rsign_j2 h hs
  · refine Ev.congr (rsign_short h hs hle) ?_
    have hr : r = [] := List.eq_nil_of_length_eq_zero (by omega)
    have ht : ¬ twos.contains ((c :: r).take 2) = true := by subst hr; simp [twos]
    rw [if_neg ht]
    exact rsign_j2 h hs
abbrev Nx := Int × ByteArray × Int × Int × Int × Int
/-- What next tells of a step. -/
def nxt (p : Nat) (q : Bs) : Step → Nx
  | .err o e => (0, ⟨#[]⟩, 0, 0, ((p + o : Nat) : Int), (e : Int))
  | .tok kd n => ((kd : Int), mkS (q.take n), (p : Int), ((p + n : Nat) : Int), 0, 0)
  | _ => (0, ⟨#[]⟩, 0, 0, 0, 0)
theorem rj1_ev {s : ByteArray} (hs : s.size ≤ 65536) {c : UInt8} {r pre : Bs} (h : lst s = pre ++ c :: r) (hdig : isDig c = false) (b : Bool) (hb : b = (isName c && !isLow c)) (st : Step)
    (hst : st = if isName c && !isLow c then (if 32 < 1 + (r.takeWhile isName).length then Step.err 0 5 else .tok (if c.toNat ≤ 90 then 2 else if kws.contains ((c :: r).take (1 + (r.takeWhile isName).length)) then 5 else 1) (1 + (r.takeWhile isName).length))
      else if isLow c && headIs isName r then .err 0 4 else match punct (c :: r) with | 0 => .err 0 4 | n + 1 => .tok 4 (n + 1)) :
    Ev (fun k => cellarerref13_next.j1 k s (pre.length : Int) (c.toNat : Int) b) (nxt pre.length (c :: r) st) := by
  have hps : s.size = pre.length + (r.length + 1) := by rw [size_lst, h]; simp
  have hle := takeWhile_len isName r
  cases b with
  | true =>
    rw [← hb] at hst
    rw [if_pos rfl] at hst
    have hn : isName c = true := by cases hx : isName c <;> simp [hx] at hb ⊢
    have hlow : ¬ c.toNat = 95 := by simp [hn, isLow] at hb; omega
    have hrun := rrun_ev s hs false (c :: r) pre h
    simp only [Bool.false_eq_true, if_false, List.takeWhile_cons, hn, if_true, List.length_cons] at hrun
    rw [show (r.takeWhile isName).length + 1 = 1 + (r.takeWhile isName).length from Nat.add_comm _ _] at hrun
    generalize hnn : 1 + (r.takeWhile isName).length = n at *
    have hup : isUp c = decide (c.toNat ≤ 90) := by
      have e : isName c = nameB c.toNat := rfl
      rw [e] at hn
      unfold nameB at hn
      unfold isDig at hdig
      unfold isUp
      rw [Bool.eq_iff_iff]
      simp at hn hdig ⊢
      omega
    refine Ev.step (f := fun k => (cellarerref13_run.f k s (pre.length : Int) false).bind fun t248 => (if (wrap64 (t248 - (pre.length : Int))) > 32 then (some (0, (⟨#[]⟩ : ByteArray), 0, 0, (pre.length : Int), 5)) else (if 0 ≤ (pre.length : Int) then (if (pre.length : Int) ≤ t248 then (if t248 ≤ (s.size : Int) then ((cellarerref13_upper.f (c.toNat : Int)).bind fun t250 => (if t250 = true then (some (2, s.extract (pre.length : Int).toNat (t248 : Int).toNat, (pre.length : Int), t248, 0, 0)) else ((cellarerref13_Keyword.f k (s.extract (pre.length : Int).toNat (t248 : Int).toNat)).bind fun t251 => (if t251 = true then (some (5, s.extract (pre.length : Int).toNat (t248 : Int).toNat, (pre.length : Int), t248, 0, 0)) else (some (1, s.extract (pre.length : Int).toNat (t248 : Int).toNat, (pre.length : Int), t248, 0, 0)))))) else (none)) else (none)) else (none)))) (fun k => ?_) (Ev.bind hrun ?_)
    · simp only [cellarerref13_next.j1]
      rw [if_pos trivial]
    · have hw : wrap64 (((pre.length + n : Nat) : Int) - (pre.length : Int)) = (n : Int) := by rw [wrap_ok (by omega) (by omega)]; omega
      by_cases h32 : 32 < n
      · rw [if_pos h32] at hst
        subst hst
        refine Ev.congr (f := fun _ => some _) (fun k => ?_) (Ev.now _)
        rw [hw, if_pos (by omega)]
        simp [nxt]
      · rw [if_neg h32] at hst
        subst hst
        have head : ∀ k, (if (wrap64 (((pre.length + n : Nat) : Int) - (pre.length : Int))) > 32 then (some (0, (⟨#[]⟩ : ByteArray), 0, 0, (pre.length : Int), 5)) else (if 0 ≤ (pre.length : Int) then (if (pre.length : Int) ≤ ((pre.length + n : Nat) : Int) then (if ((pre.length + n : Nat) : Int) ≤ (s.size : Int) then ((cellarerref13_upper.f (c.toNat : Int)).bind fun t250 => (if t250 = true then (some (2, s.extract (pre.length : Int).toNat (((pre.length + n : Nat) : Int) : Int).toNat, (pre.length : Int), ((pre.length + n : Nat) : Int), 0, 0)) else ((cellarerref13_Keyword.f k (s.extract (pre.length : Int).toNat (((pre.length + n : Nat) : Int) : Int).toNat)).bind fun t251 => (if t251 = true then (some (5, s.extract (pre.length : Int).toNat (((pre.length + n : Nat) : Int) : Int).toNat, (pre.length : Int), ((pre.length + n : Nat) : Int), 0, 0)) else (some (1, s.extract (pre.length : Int).toNat (((pre.length + n : Nat) : Int) : Int).toNat, (pre.length : Int), ((pre.length + n : Nat) : Int), 0, 0)))))) else (none)) else (none)) else (none)) : Option Nx)
            = if c.toNat ≤ 90 then some (2, mkS ((c :: r).take n), (pre.length : Int), ((pre.length + n : Nat) : Int), 0, 0) else (cellarerref13_Keyword.f k (mkS ((c :: r).take n))).bind fun t251 => (if t251 = true then (some (5, mkS ((c :: r).take n), (pre.length : Int), ((pre.length + n : Nat) : Int), 0, 0)) else (some (1, mkS ((c :: r).take n), (pre.length : Int), ((pre.length + n : Nat) : Int), 0, 0))) := by
          intro k
          rw [hw, if_neg (by omega), if_pos (by omega), if_pos (by omega), if_pos (by omega), rupper_eq, cut_mid h, hup]
          simp only [Option.bind_some]
          by_cases hc : c.toNat ≤ 90
          · rw [if_pos (by simpa using hc), if_pos hc]
          · rw [if_neg (by simpa using hc), if_neg hc]
        refine Ev.congr head ?_
        by_cases hc : c.toNat ≤ 90
        · rw [if_pos hc]
          exact Ev.congr (f := fun _ => some _) (fun k => if_pos hc) (Ev.now _)
        · rw [if_neg hc]
          have hk := rkw_ev (mkS ((c :: r).take n))
          rw [lst_mkS] at hk
          refine Ev.congr (fun k => if_neg hc) (Ev.bind hk ?_)
          refine Ev.congr (f := fun _ => some _) (fun k => ?_) (Ev.now _)
          split
          · simp only [nxt]; rfl
          · simp only [nxt]; rfl
  | false =>
    rw [← hb] at hst
    rw [if_neg (by simp)] at hst
    have hsg := rsign_ev hs h
    have hw1 : wrap64 ((pre.length : Int) + 1) = ((pre.length + 1 : Nat) : Int) := by rw [wrap_ok (by omega) (by omega)]; omega
    refine Ev.step (f := fun k => (cellarerref13_sign.f k s (pre.length : Int)).bind fun t252 => (if t252.toList = ([] : List UInt8) then (some (0, (⟨#[]⟩ : ByteArray), 0, 0, (pre.length : Int), 4)) else (if t252.toList = ([95] : List UInt8) then (if (wrap64 ((pre.length : Int) + 1)) < (s.size : Int) then (if 0 ≤ (wrap64 ((pre.length : Int) + 1)) then ((cellarerref13_part.f (bt s (wrap64 ((pre.length : Int) + 1)))).bind fun t253 => (if t253 = true then (some (0, (⟨#[]⟩ : ByteArray), 0, 0, (pre.length : Int), 4)) else (some (4, t252, (pre.length : Int), wrap64 ((pre.length : Int) + (t252.size : Int)), 0, 0)))) else (none)) else (some (4, t252, (pre.length : Int), wrap64 ((pre.length : Int) + (t252.size : Int)), 0, 0))) else (some (4, t252, (pre.length : Int), wrap64 ((pre.length : Int) + (t252.size : Int)), 0, 0))))) (fun k => ?_) (Ev.bind hsg ?_)
    · simp only [cellarerref13_next.j1]
      rw [if_neg (by simp)]
    · have hpl := punct_le (c :: r)
      simp only [List.length_cons] at hpl
      have hsz : (mkS ((c :: r).take (punct (c :: r)))).size = punct (c :: r) := by rw [size_lst, lst_mkS]; simp; omega
      have hwp : wrap64 ((pre.length : Int) + ((punct (c :: r) : Nat) : Int)) = ((pre.length + punct (c :: r) : Nat) : Int) := by rw [wrap_ok (by omega) (by omega)]; omega
      rw [toList_lst, lst_mkS]
      rw [hsz, hwp, hw1]
      cases hp : punct (c :: r) with
      | zero =>
        rw [hp] at hst
        have hst' : st = .err 0 4 := by rw [hst]; split <;> rfl
        subst hst'
        exact Ev.congr (f := fun _ => some _) (fun k => by rw [if_pos (by simp)]; simp [nxt]) (Ev.now _)
      | succ n =>
        rw [hp] at hst
        by_cases hlow : c.toNat = 95
        · have hlb : isLow c = true := by simp [isLow, hlow]
          have hc95 : c = 95 := UInt8.toNat_inj.1 hlow
          have hn0 : n = 0 := by
            have : punct (c :: r) = 1 := by
              unfold punct
              rw [if_neg (by subst hc95; cases r <;> simp [twos])]
              subst hc95
              rfl
            omega
          subst hn0
          rw [hlb] at hst
          simp only [Bool.true_and] at hst
          have e1 : (c :: r).take (0 + 1) = [95] := by subst hc95; rfl
          rw [e1]
          cases r with
          | nil =>
            rw [if_neg (by simp [headIs])] at hst
            subst hst
            refine Ev.congr (f := fun _ => some _) (fun k => ?_) (Ev.now _)
            simp only [List.length_nil] at hps
            rw [if_neg (by simp), if_pos rfl, if_neg (by omega)]
            simp only [nxt, e1]
            rfl
          | cons d r =>
            simp only [List.length_cons] at hps
            have hbd : bt s ((pre.length + 1 : Nat) : Int) = (d.toNat : Int) := by
              have := bt_mid (s := s) (pre := pre ++ [c]) (c := d) (r := r) (by rw [h]; simp)
              simpa using this
            refine Ev.congr (f := fun _ => some _) (fun k => ?_) (Ev.now _)
            rw [if_neg (by simp), if_pos rfl, if_pos (by omega), if_pos (by omega), hbd, rpart_eq]
            simp only [Option.bind_some]
            by_cases hd : isName d = true
            · rw [if_pos (by simp [headIs, hd])] at hst
              subst hst
              rw [if_pos hd]
              simp [nxt]
            · rw [if_neg (by simp [headIs, hd])] at hst
              subst hst
              rw [if_neg hd]
              simp only [nxt, e1]
              rfl
        · have hlb : isLow c = false := by simp [isLow, hlow]
          rw [hlb] at hst
          simp only [Bool.false_and, Bool.false_eq_true, if_false] at hst
          subst hst
          refine Ev.congr (f := fun _ => some _) (fun k => ?_) (Ev.now _)
          have e2 : ¬ (c :: r).take (n + 1) = [95] := by
            rw [List.take_succ_cons]
            intro e
            injection e with e _
            exact hlow (by rw [e]; rfl)
          rw [if_neg (by simp), if_neg e2]
          simp only [nxt]
          rfl
end Go.Proofs.YtenjbcjekjmaeaaDoor.PTok
