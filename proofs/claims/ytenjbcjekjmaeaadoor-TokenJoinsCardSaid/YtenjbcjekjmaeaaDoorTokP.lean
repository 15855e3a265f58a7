/- What the program's Scan computes: the tokens and comments as the plain scan tells them, or the first wrong byte, or the error. No condition but the size. -/
import Derived.Test.YtenjbcjekjmaeaaDoorTokA
namespace Go.Proofs.YtenjbcjekjmaeaaDoor.PTok
open Go.RowKit Go.Proofs.YtenjbcjekjmaeaaDoor.Ext Go.Proofs.YtenjbcjekjmaeaaDoorW.PrintWords
set_option linter.unusedVariables false
set_option linter.unusedSimpArgs false

/-- The first byte that may not occur, or -1. -/
def bad (p : Nat) : Bs → Int
  | [] => -1
  | c :: r => if isFine c then bad (p + 1) r else p
theorem wrap_ok {i : Int} (h0 : -9223372036854775808 ≤ i) (h1 : i ≤ 9223372036854775807) : wrap64 i = i := by unfold wrap64; omega
theorem mid_lt {L pre : Bs} {c : UInt8} {r : Bs} (h : L = pre ++ c :: r) : pre.length < L.length := by rw [h]; simp
theorem mid_get {L pre : Bs} {c : UInt8} {r : Bs} (h : L = pre ++ c :: r) (hl : pre.length < L.length) : L[pre.length]'hl = c := by subst h; simp
theorem bt_mid {s : ByteArray} {pre : Bs} {c : UInt8} {r : Bs} (h : lst s = pre ++ c :: r) : bt s (pre.length : Int) = (c.toNat : Int) := by
  rw [bt_get s pre.length (mid_lt h), mid_get h]
theorem wrong_ev (s : ByteArray) (hs : s.size ≤ 65536) : ∀ (r pre : Bs), lst s = pre ++ r → Ev (fun k => token_wrong.l0 k s (s.size : Int) (pre.length : Int)) (bad pre.length r) := by
  intro r
  induction r with
  | nil =>
    intro pre h
    have hl : s.size = pre.length := by rw [size_lst, h]; simp
    refine Ev.step (f := fun _ => some (-1)) (fun k => ?_) (Ev.now _)
    simp only [token_wrong.l0]
    rw [if_neg (by omega)]
  | cons c r ih =>
    intro pre h
    have hl : pre.length < s.size := by rw [size_lst]; exact mid_lt h
    have hb := bt_mid h
    have ih' := ih (pre ++ [c]) (by rw [h]; simp)
    have hw : wrap64 ((pre.length : Int) + 1) = ((pre ++ [c]).length : Int) := by rw [wrap_ok (by omega) (by omega)]; simp
    have hc := c.toNat_lt
    by_cases hf : isFine c = true
    · have hf' := hf
      simp only [isFine, decide_eq_true_eq] at hf'
      refine Ev.step (f := fun k => token_wrong.l0 k s (s.size : Int) ((pre ++ [c]).length : Int)) (fun k => ?_) ?_
      · simp only [token_wrong.l0]
        rw [if_pos (by omega), if_pos (by omega), if_pos (by omega), hb, hw]
        (repeat' split) <;> first | rfl | (exfalso; omega)
      · simp only [bad, if_pos hf]
        simpa using ih'
    · have hf' := hf
      simp only [isFine, decide_eq_true_eq] at hf'
      refine Ev.step (f := fun _ => some (pre.length : Int)) (fun k => ?_) ?_
      · simp only [token_wrong.l0]
        rw [if_pos (by omega), if_pos (by omega), if_pos (by omega), hb]
        (repeat' split) <;> first | rfl | (exfalso; omega)
      · simp only [bad, if_neg hf]
        exact Ev.now _

/-! the library's and the small functions -/
theorem idx_mem (l : Bs) (c : UInt8) : 0 ≤ Lib.indexByte l c ↔ c ∈ l := by
  induction l with
  | nil => simp [Lib.indexByte]
  | cons b l ih =>
    have hg := Lib.indexByte_ge l c
    unfold Lib.indexByte
    by_cases h : (b == c) = true
    · rw [if_pos h]
      have : b = c := by simpa using h
      simp [this]
    · rw [if_neg h]
      have hbc : ¬ c = b := fun e => h (by simp [e])
      rw [List.mem_cons]
      by_cases h2 : (Lib.indexByte l c == -1) = true
      · rw [if_pos h2]
        have : Lib.indexByte l c = -1 := by simpa using h2
        rw [this] at ih
        constructor
        · intro h3; omega
        · rintro (h3 | h3)
          · exact absurd h3 hbc
          · have := ih.2 h3; omega
      · rw [if_neg h2]
        have : Lib.indexByte l c ≠ -1 := by simpa using h2
        constructor
        · intro _; exact .inr (ih.1 (by omega))
        · rintro (h3 | h3)
          · exact absurd h3 hbc
          · have := ih.2 h3; omega
theorem idx_pos (l : Bs) (c : UInt8) : decide (Lib.indexByte l c ≥ 0) = l.contains c := by
  rw [Bool.eq_iff_iff, decide_eq_true_eq, List.contains_iff_mem]
  exact idx_mem l c
theorem idx_run (l : Bs) : Lib.indexByte l 10 = if (l.takeWhile notLf).length < l.length then ((l.takeWhile notLf).length : Int) else -1 := by
  induction l with
  | nil => simp [Lib.indexByte]
  | cons b l ih =>
    unfold Lib.indexByte
    by_cases h : (b == 10) = true
    · have : b = 10 := by simpa using h
      subst this
      simp [notLf]
    · have hb : notLf b = true := by
        simp only [notLf, decide_eq_true_eq]
        intro e
        exact h (by simp; exact UInt8.toNat_inj.1 e)
      rw [if_neg h, ih, List.takeWhile_cons, if_pos hb, List.length_cons, List.length_cons]
      generalize (l.takeWhile notLf).length = n
      generalize l.length = m
      by_cases h2 : n < m
      · simp only [if_pos h2, if_pos (show n + 1 < m + 1 by omega)]
        rw [if_neg (by simp)]
        rfl
      · simp only [if_neg h2, if_neg (show ¬ n + 1 < m + 1 by omega)]
        rfl
theorem toU8 (c : UInt8) : ((c.toNat : Int)).toNat.toUInt8 = c := by simp
theorem or_step {x a : Bs} {e : Option Bool} {b : Bool} (h : e = some b) : (if x = a then some true else e) = some ((x == a) || b) := by
  subst h
  by_cases h : x = a
  · simp [h]
  · simp [h]
theorem keyword_eq (a : ByteArray) : token_Keyword.f a = some (kws.contains (lst a)) := by
  unfold token_Keyword.f
  rw [toList_lst]
  simp only [kws, List.contains_cons, List.contains_nil]
  repeat (first | rfl | refine or_step ?_)
theorem digit_eq (c : UInt8) : token_digit.f (c.toNat : Int) = some (isDig c) := by
  unfold token_digit.f isDig
  split
  · rw [show decide (48 ≤ c.toNat) = true from by simp; omega]
    simp
    omega
  · rw [show decide (48 ≤ c.toNat) = false from by simp; omega]
    rfl
theorem prefix_eq (B : ByteArray) (c : UInt8) (r : Bs) (h : lst B = c :: r) : strings_HasPrefix.f B (⟨#[45, 45]⟩ : ByteArray) = some (isDash c && headIs isDash r) := by
  have h2 : lst (⟨#[45, 45]⟩ : ByteArray) = [45, 45] := rfl
  unfold strings_HasPrefix.f stringslite_HasPrefix.f
  rw [show ((⟨#[45, 45]⟩ : ByteArray).size : Int) = 2 from rfl, toList_lst, toList_lst, lst_extract, h2, size_lst, h]
  cases r with
  | nil => simp [headIs]
  | cons d r =>
    rw [if_pos (by simp; omega), if_pos (by omega), if_pos (by simp; omega)]
    simp only [Option.bind_some, headIs, Option.some.injEq]
    show ([c, d] == [45, 45]) = _
    rw [Bool.eq_iff_iff]
    simp only [beq_iff_eq, List.cons.injEq, and_true, Bool.and_eq_true, isDash, decide_eq_true_eq]
    constructor
    · rintro ⟨rfl, rfl⟩; exact ⟨rfl, rfl⟩
    · rintro ⟨h1, h2⟩; exact ⟨UInt8.toNat_inj.1 h1, UInt8.toNat_inj.1 h2⟩
theorem punct_ev (B : ByteArray) (c : UInt8) (r : Bs) (h : lst B = c :: r) : Ev (fun k => token_punctuation.f k B) (punct (c :: r) : Int) := by
  have hi : strings_IndexByte.f (⟨#[40, 41, 44, 124, 61, 58, 60, 43, 45, 42, 47, 37, 95]⟩ : ByteArray) (bt B 0) = some (Lib.indexByte ones c) := by
    have := bt_mid (s := B) (pre := []) h
    simp only [List.length_nil, Int.natCast_zero] at this
    unfold strings_IndexByte.f
    rw [this, toU8]
    rfl
  have hp := idx_pos ones c
  have hone : (if Lib.indexByte ones c ≥ 0 then some 1 else some 0 : Option Int) = some ((if ones.contains c = true then 1 else 0 : Nat) : Int) := by
    rw [← hp]
    by_cases h0 : Lib.indexByte ones c ≥ 0
    · simp [h0]
    · simp [h0]
  have hj : ∀ b, Ev (fun k => token_punctuation.j0 k B b) (if b = true then 2 else ((if ones.contains c = true then 1 else 0 : Nat) : Int)) := by
    intro b
    refine Ev.step (f := fun _ => some (if b = true then 2 else ((if ones.contains c = true then 1 else 0 : Nat) : Int))) (fun k => ?_) (Ev.now _)
    simp only [token_punctuation.j0]
    by_cases hb : b = true
    · rw [if_pos hb, if_pos hb]
    · rw [if_neg hb, if_neg hb, if_pos (by rw [size_lst, h]; simp), hi]
      exact hone
  have h2 : lst (B.extract 0 2) = (c :: r).take 2 := by rw [lst_extract, h]; rfl
  unfold punct
  refine Ev.congr (f := fun k => if (B.size : Int) > 1 then token_punctuation.j0 k B (twos.contains ((c :: r).take 2)) else some ((if ones.contains c = true then 1 else 0 : Nat) : Int)) (fun k => ?_) ?_
  · unfold token_punctuation.f
    by_cases hs : (B.size : Int) > 1
    · rw [if_pos hs, if_pos hs, if_pos (by omega), if_pos (by omega), toList_lst, h2]
      simp only [twos, List.contains_cons, List.contains_nil, Bool.or_false]
      generalize List.take 2 (c :: r) = x
      by_cases h1 : x = [61, 61]
      · subst h1; rfl
      · rw [if_neg h1, show (x == [61, 61]) = false from by simpa using h1]
        by_cases h2 : x = [45, 62]
        · subst h2; rfl
        · rw [if_neg h2, show (x == [45, 62]) = false from by simpa using h2]
          rfl
    · rw [if_neg hs, if_neg hs, if_pos (by rw [size_lst, h]; simp), hi]
      exact hone
  · by_cases hs : (B.size : Int) > 1
    · refine Ev.congr (f := fun k => token_punctuation.j0 k B (twos.contains ((c :: r).take 2))) (fun k => if_pos hs) ?_
      have := hj (twos.contains ((c :: r).take 2))
      by_cases ht : twos.contains ((c :: r).take 2) = true
      · rw [if_pos ht] at this
        rw [if_pos ht]
        exact this
      · rw [if_neg ht] at this
        rw [if_neg ht]
        exact this
    · refine Ev.congr (f := fun _ => some ((if ones.contains c = true then 1 else 0 : Nat) : Int)) (fun k => if_neg hs) ?_
      have hr : r = [] := by
        rw [size_lst, h] at hs
        simp at hs
        cases r with
        | nil => rfl
        | cons d r => simp at hs; omega
      subst hr
      have : ¬ twos.contains ([c].take 2) = true := by simp [twos]
      rw [if_neg this]
      exact Ev.now _
theorem parse_num (T : ByteArray) (h : T.size ≤ 140737488351232) : ∃ q, strconv_ParseInt.f T 10 64 = some q ∧ q.2.isNone = isNum (lst T) := by
  unfold strconv_ParseInt.f isNum
  rw [if_pos ⟨rfl, rfl, h⟩]
  show ∃ q : Int × Option Int, (match Lib.parseIntB 64 (lst T) with | .ok v => some (v, none) | .range => some (Lib.intSat 64 (lst T), some 1) | _ => some (0, some 0)) = some q ∧ _
  cases Lib.parseIntB 64 (lst T) with
  | ok v => exact ⟨_, rfl, rfl⟩
  | range => exact ⟨_, rfl, rfl⟩
  | _ => exact ⟨_, rfl, rfl⟩

/-! the loops -/
def toP (n : Nat × Nat) : S33 := ⟨n.1, n.2⟩
def toS (t : Tk) : S36 := ⟨t.kd, mkS t.text, toP (t.a, t.b)⟩
abbrev Out := List S36 × List S33 × Int × Int
def out (x8 : List S36) (x9 : List S33) : Res → Out
  | .ok ts ns => (x8 ++ ts.map toS, x9 ++ ns.map toP, 0, 0)
  | .err o c => ([], [], o, c)
def lastS (x8 : List S36) : Option (Int × Bs) := x8.getLast?.map fun t => (t.f0, lst t.f1)
def up (last : Option (Nat × Bs)) : Option (Int × Bs) := last.map fun q => ((q.1 : Int), q.2)
theorem signed_eq (x8 : List S36) (last : Option (Nat × Bs)) (h : lastS x8 = up last) (hl : x8.length ≤ 100000) : token_signed.f x8 = some (sgn last) := by
  unfold token_signed.f
  rcases List.eq_nil_or_concat x8 with rfl | ⟨y, z, rfl⟩
  · cases last with
    | none => rfl
    | some q => simp [lastS, up] at h
  · rw [List.concat_eq_append] at h hl ⊢
    rw [List.length_append] at hl
    simp only [List.length_singleton] at hl
    have hw : wrap64 (((y ++ [z]).length : Int) - 1) = (y.length : Int) := by rw [wrap_ok (by simp) (by simp; omega)]; simp
    have hr : rd_T36 (y ++ [z]) (y.length : Int) = z := by simp [rd_T36]
    cases last with
    | none => simp [lastS, up] at h
    | some q =>
      simp only [lastS, up, List.getLast?_concat, Option.map_some, Option.some.injEq, Prod.mk.injEq] at h
      rw [hw, hr, if_neg (by simp; omega), if_pos (by omega), if_pos (by simp; omega), h.1, toList_lst, h.2]
      obtain ⟨kd, t⟩ := q
      simp only [sgn]
      by_cases h5 : kd = 5
      · subst h5; simp
      · rw [if_neg (by omega)]
        by_cases h4 : kd = 4
        · subst h4
          rw [if_pos (by omega)]
          by_cases a1 : t = [41]
          · subst a1; rfl
          · rw [if_neg a1]
            by_cases a2 : t = [58]
            · subst a2; rfl
            · rw [if_neg a2]
              by_cases a3 : t = [95]
              · subst a3; rfl
              · rw [if_neg a3]; simp [a1, a2, a3]
        · rw [if_neg (by omega)]; simp [h4, h5]

theorem run1 (s B : ByteArray) (hB : B.size ≤ 65536) (x8 : List S36) (x9 : List S33) (x10 x11 : Int) (R : Out) : ∀ (q m1 : Bs), lst B = m1 ++ q →
    Ev (fun k => token_Scan.j2 k s x8 x9 x10 x11 B ((m1.length + (q.takeWhile isName).length : Nat) : Int) nameB) R → Ev (fun k => token_Scan.l1 k s x8 x9 x10 x11 B (m1.length : Int) nameB) R := by
  intro q
  induction q with
  | nil =>
    intro m1 h hj
    have hl : B.size = m1.length := by rw [size_lst, h]; simp
    refine Ev.step (f := fun k => token_Scan.j2 k s x8 x9 x10 x11 B (m1.length : Int) nameB) (fun k => ?_) (by simpa using hj)
    simp only [token_Scan.l1]
    rw [if_neg (by omega)]
  | cons d q ih =>
    intro m1 h hj
    have hl : m1.length < B.size := by rw [size_lst]; exact mid_lt h
    have hb := bt_mid h
    have hd := d.toNat_lt
    have hw : wrap64 ((m1.length : Int) + 1) = ((m1 ++ [d]).length : Int) := by rw [wrap_ok (by omega) (by omega)]; simp
    by_cases hn : isName d = true
    · refine Ev.step (f := fun k => token_Scan.l1 k s x8 x9 x10 x11 B ((m1 ++ [d]).length : Int) nameB) (fun k => ?_) (ih (m1 ++ [d]) (by rw [h]; simp) ?_)
      · simp only [token_Scan.l1]
        rw [if_pos (by omega), if_pos (by omega), hb, if_pos (by omega), if_pos (by omega), Int.toNat_natCast, if_pos (show nameB d.toNat = true from hn), hw]
      · rw [List.takeWhile_cons, if_pos hn] at hj
        have e : (m1 ++ [d]).length + (q.takeWhile isName).length = m1.length + (d :: q.takeWhile isName).length := by simp; omega
        rw [e]; exact hj
    · refine Ev.step (f := fun k => token_Scan.j2 k s x8 x9 x10 x11 B (m1.length : Int) nameB) (fun k => ?_) ?_
      · simp only [token_Scan.l1]
        rw [if_pos (by omega), if_pos (by omega), hb, if_pos (by omega), if_pos (by omega), Int.toNat_natCast, if_neg (show ¬ nameB d.toNat = true from hn)]
      · rw [List.takeWhile_cons, if_neg hn] at hj
        exact hj
theorem run2 (s B : ByteArray) (hB : B.size ≤ 65536) (x8 : List S36) (x9 : List S33) (x10 : Int) (R : Out) : ∀ (q m1 : Bs), lst B = m1 ++ q →
    Ev (fun k => token_Scan.j6 k s x8 x9 x10 B ((m1.length + (q.takeWhile isDig).length : Nat) : Int) nameB) R → Ev (fun k => token_Scan.l2 k s x8 x9 x10 B (m1.length : Int) nameB) R := by
  intro q
  induction q with
  | nil =>
    intro m1 h hj
    have hl : B.size = m1.length := by rw [size_lst, h]; simp
    refine Ev.step (f := fun k => token_Scan.j6 k s x8 x9 x10 B (m1.length : Int) nameB) (fun k => ?_) (by simpa using hj)
    simp only [token_Scan.l2]
    rw [if_neg (by omega)]
  | cons d q ih =>
    intro m1 h hj
    have hl : m1.length < B.size := by rw [size_lst]; exact mid_lt h
    have hb := bt_mid h
    have hw : wrap64 ((m1.length : Int) + 1) = ((m1 ++ [d]).length : Int) := by rw [wrap_ok (by omega) (by omega)]; simp
    by_cases hn : isDig d = true
    · refine Ev.step (f := fun k => token_Scan.l2 k s x8 x9 x10 B ((m1 ++ [d]).length : Int) nameB) (fun k => ?_) (ih (m1 ++ [d]) (by rw [h]; simp) ?_)
      · simp only [token_Scan.l2]
        rw [if_pos (by omega), if_pos (by omega), hb, digit_eq]
        simp only [Option.bind_some]
        rw [if_pos hn, hw]
      · rw [List.takeWhile_cons, if_pos hn] at hj
        have e : (m1 ++ [d]).length + (q.takeWhile isDig).length = m1.length + (d :: q.takeWhile isDig).length := by simp; omega
        rw [e]; exact hj
    · refine Ev.step (f := fun k => token_Scan.j6 k s x8 x9 x10 B (m1.length : Int) nameB) (fun k => ?_) ?_
      · simp only [token_Scan.l2]
        rw [if_pos (by omega), if_pos (by omega), hb, digit_eq]
        simp only [Option.bind_some]
        rw [if_neg hn]
      · rw [List.takeWhile_cons, if_neg hn] at hj
        exact hj

theorem out_addT (x8 : List S36) (x9 : List S33) (t : Tk) (R : Res) : out x8 x9 (R.addT t) = out (x8 ++ [toS t]) x9 R := by
  cases R <;> simp [out, Res.addT]
theorem out_addN (x8 : List S36) (x9 : List S33) (n : Nat × Nat) (R : Res) : out x8 x9 (R.addN n) = out x8 (x9 ++ [toP n]) R := by
  cases R <;> simp [out, Res.addN]
theorem white_eq (c : UInt8) : ([32, 9, 13, 10] : Bs).contains c = isWhite c := by
  rw [Bool.eq_iff_iff, List.contains_iff_mem]
  simp only [List.mem_cons, List.not_mem_nil, or_false, isWhite, decide_eq_true_eq, ← UInt8.toNat_inj]
  exact Iff.rfl
theorem cut_all {s : ByteArray} {pre q : Bs} (h : lst s = pre ++ q) : lst (s.extract (pre.length : Int).toNat s.size) = q := by
  rw [lst_extract, Int.toNat_natCast, size_lst, List.take_length, h, List.drop_left]
theorem cut_to (B : ByteArray) (q : Bs) (h : lst B = q) (n : Nat) : B.extract 0 (n : Int).toNat = mkS (q.take n) := by
  rw [extract_mk, h, Int.toNat_natCast, List.drop_zero]
theorem word_eq (T : ByteArray) (c : UInt8) (q : Bs) (h : lst T = c :: q) : token_word.f T = some (if 32 < (c :: q).length then (0, ⟨#[]⟩, 0, 0, 5) else (((if c.toNat ≤ 90 then 2 else if kws.contains (c :: q) then 5 else 1 : Nat) : Int), T, 0, 0, 0)) := by
  have hb := bt_mid (s := T) (pre := []) h
  simp only [List.length_nil, Int.natCast_zero] at hb
  unfold token_word.f
  rw [size_lst, h, hb, keyword_eq, h]
  by_cases h1 : 32 < (c :: q).length
  · rw [if_pos (by omega), if_pos h1]
  · rw [if_neg (by omega), if_neg h1, if_pos (by simp)]
    by_cases h2 : c.toNat ≤ 90
    · rw [if_pos (by omega), if_pos h2]; rfl
    · rw [if_neg (by omega), if_neg h2]
      simp only [Option.bind_some]
      split <;> rfl

theorem small8 {x : Nat} (h : x ≤ 65536) : x < 3518437208883 := by omega
theorem small9 {x : Nat} (h : x ≤ 65536) : x < 8796093022208 := by omega
section
variable {s : ByteArray} {m : Nat} {c : UInt8} {r pre : Bs} {x8 : List S36} {x9 : List S33} {last : Option (Nat × Bs)}
/-- What the loop does from here on, for every state that fits. -/
def Goes (s : ByteArray) (m : Nat) : Prop := ∀ (r pre : Bs) (x8 : List S36) (x9 : List S33) (last : Option (Nat × Bs)), r.length ≤ m → lst s = pre ++ r → lastS x8 = up last → x8.length ≤ pre.length → x9.length ≤ pre.length →
    Ev (fun k => token_Scan.l0 k s x8 x9 (pre.length : Int) nameB) (out x8 x9 (scan m pre.length r last))
theorem go_tok (ih : Goes s m) (hm : (c :: r).length ≤ m + 1) (h : lst s = pre ++ c :: r) (h8 : x8.length ≤ pre.length) (h9 : x9.length ≤ pre.length) {kd n : Nat} (hst : step c r last = .tok kd n) {i j : Int}
    (hi : i = kd) (hj : j = ((pre.length + n : Nat) : Int)) :
    Ev (fun k => token_Scan.l0 k s (x8 ++ [(⟨i, mkS ((c :: r).take n), (⟨(pre.length : Int), j⟩ : S33)⟩ : S36)]) x9 j nameB) (out x8 x9 (scan (m + 1) pre.length (c :: r) last)) := by
  subst hi hj
  obtain ⟨h1, h2⟩ := step_tok hst
  have hl : ((c :: r).take n).length = n := by simp; omega
  have e : pre.length + n = (pre ++ (c :: r).take n).length := by rw [List.length_append, hl]
  simp only [scan, hst]
  rw [out_addT]
  have := ih ((c :: r).drop n) (pre ++ (c :: r).take n) (x8 ++ [toS ⟨kd, (c :: r).take n, pre.length, pre.length + n⟩]) x9 (some (kd, (c :: r).take n)) (by simp at hm ⊢; omega)
    (by rw [h, List.append_assoc, List.take_append_drop]) (by simp [lastS, up, toS]) (by rw [← e]; simp; omega) (by rw [← e]; omega)
  rw [← e] at this
  exact this
theorem go_j7 (ih : Goes s m) (hs : s.size ≤ 65536) (hm : (c :: r).length ≤ m + 1) (h : lst s = pre ++ c :: r) (h8 : x8.length ≤ pre.length) (h9 : x9.length ≤ pre.length) {B : ByteArray} (hB : lst B = c :: r) (b : Bool)
    (hb : b = (isLow c && headIs isName r)) (hst : step c r last = if isLow c && headIs isName r then .err 0 4 else match punct (c :: r) with | 0 => .err 0 4 | n + 1 => .tok 4 (n + 1)) :
    Ev (fun k => token_Scan.j7 k s x8 x9 (pre.length : Int) B b nameB) (out x8 x9 (scan (m + 1) pre.length (c :: r) last)) := by
  have hps : pre.length + r.length + 1 ≤ 65536 := by rw [size_lst, h] at hs; simp at hs; omega
  by_cases hc : (isLow c && headIs isName r) = true
  · rw [hc] at hb
    rw [if_pos hc] at hst
    subst hb
    refine Ev.step (f := fun _ => some ([], [], (pre.length : Int), 4)) (fun k => ?_) ?_
    · simp only [token_Scan.j7]; rfl
    · simp only [scan, hst, out]; exact Ev.now _
  · rw [Bool.eq_false_iff.mpr hc] at hb
    rw [if_neg hc] at hst
    subst hb
    have hp := punct_ev B c r hB
    have hle := punct_le (c :: r)
    refine Ev.step (f := fun k => (token_punctuation.f k B).bind fun t150 => (if t150 = 0 then (some (([] : List (S36)), ([] : List (S33)), (pre.length : Int), 4)) else (if 0 ≤ t150 then (if t150 ≤ (B.size : Int) then (if x8.length < 3518437208883 then (token_Scan.l0 k s (x8 ++ [(⟨4, B.extract 0 (t150 : Int).toNat, (⟨(pre.length : Int), wrap64 ((pre.length : Int) + t150)⟩ : S33)⟩ : S36)]) x9 (wrap64 ((pre.length : Int) + t150)) nameB) else (none)) else (none)) else (none)))) (fun k => ?_) (Ev.bind hp ?_)
    · simp only [token_Scan.j7]; rfl
    · cases hpn : punct (c :: r) with
      | zero =>
        rw [hpn] at hst
        refine Ev.congr (fun k => if_pos rfl) ?_
        simp only [scan, hst, out]
        exact Ev.now _
      | succ n =>
        rw [hpn] at hst hle
        simp only [List.length_cons] at hle
        refine Ev.congr (f := fun k => token_Scan.l0 k s (x8 ++ [(⟨4, mkS ((c :: r).take (n + 1)), (⟨(pre.length : Int), wrap64 ((pre.length : Int) + ((n + 1 : Nat) : Int))⟩ : S33)⟩ : S36)]) x9 (wrap64 ((pre.length : Int) + ((n + 1 : Nat) : Int))) nameB) (fun k => ?_) ?_
        · rw [if_neg (by omega), if_pos (by omega), if_pos (by rw [size_lst, hB]; simp; omega), if_pos (small8 (by omega)), cut_to B _ hB]
        · exact go_tok ih hm h h8 h9 hst rfl (by rw [wrap_ok (by omega) (by omega)]; omega)
theorem go_err {o e : Nat} (hst : step c r last = .err o e) {i : Int} {j : Int} (hi : i = ((pre.length + o : Nat) : Int)) (hj : j = e) : Ev (fun _ => some (([] : List S36), ([] : List S33), i, j)) (out x8 x9 (scan (m + 1) pre.length (c :: r) last)) := by
  subst hi hj
  simp only [scan, hst, out]
  exact Ev.now _
theorem headIs_drop (p : UInt8 → Bool) (q : Bs) (n : Nat) : headIs p (q.drop n) = if h : n < q.length then p (q[n]'h) else false := by
  by_cases h : n < q.length
  · rw [dif_pos h, List.drop_eq_getElem_cons h]; rfl
  · rw [dif_neg h, List.drop_eq_nil_of_le (by omega)]; rfl
theorem name_test {q : Bs} {n : Nat} (hlt : n < q.length) {b : Bool} (h : isName (q[n]'hlt) = b) {B : ByteArray} (hB : lst B = q) : (0 ≤ bt B (n : Int) ∧ bt B (n : Int) < 256) ∧ nameB (bt B (n : Int)).toNat = b := by
  have hb : bt B (n : Int) = ((q[n]'hlt).toNat : Int) := by
    subst hB
    exact bt_get B n hlt
  have h256 := (q[n]'hlt).toNat_lt
  rw [hb]
  exact ⟨by omega, h⟩
set_option maxHeartbeats 4000000 in
theorem go_j6 (ih : Goes s m) (hs : s.size ≤ 65536) (hm : (c :: r).length ≤ m + 1) (h : lst s = pre ++ c :: r) (h8 : x8.length ≤ pre.length) (h9 : x9.length ≤ pre.length) {B : ByteArray} (hB : lst B = c :: r) (n : Nat) (hn : n = 1 + (r.takeWhile isDig).length)
    (hst : step c r last = if !isNum ((c :: r).take n) then .err 0 2 else if headIs isName ((c :: r).drop n) then .err n 4 else .tok 3 n) :
    Ev (fun k => token_Scan.j6 k s x8 x9 (pre.length : Int) B (n : Int) nameB) (out x8 x9 (scan (m + 1) pre.length (c :: r) last)) := by
  have hps : pre.length + r.length + 1 ≤ 65536 := by rw [size_lst, h] at hs; simp at hs; omega
  have g8 : x8.length < 3518437208883 := small8 (Nat.le_trans h8 (by omega))
  have hle := takeWhile_len isDig r
  have hBs : B.size = r.length + 1 := by rw [size_lst, hB]; simp
  have hT : B.extract 0 (n : Int).toNat = mkS ((c :: r).take n) := cut_to B _ hB n
  obtain ⟨q, hq, hqn⟩ := parse_num (mkS ((c :: r).take n)) (by rw [size_lst, lst_mkS]; simp; omega)
  rw [lst_mkS] at hqn
  have hw : wrap64 ((pre.length : Int) + (n : Int)) = ((pre.length + n : Nat) : Int) := by rw [wrap_ok (by omega) (by omega)]; omega
  by_cases hnum : isNum ((c :: r).take n) = true
  · rw [hnum] at hqn hst
    simp only [Bool.not_true, Bool.false_eq_true, if_false] at hst
    by_cases hd : headIs isName ((c :: r).drop n) = true
    · rw [if_pos hd] at hst
      have hd' := hd
      rw [headIs_drop] at hd'
      by_cases hlt : n < (c :: r).length
      · rw [dif_pos hlt] at hd'
        obtain ⟨⟨g1, g2⟩, g3⟩ := name_test hlt hd' hB
        have hlt' : n < r.length + 1 := by simpa using hlt
        refine Ev.step (f := fun _ => some (([] : List S36), ([] : List S33), ((pre.length + n : Nat) : Int), 4)) (fun k => ?_) (go_err hst rfl rfl)
        simp only [token_Scan.j6]
        rw [if_pos (by omega), if_pos (by omega), hT, hq]
        simp only [Option.bind_some]
        rw [if_pos hqn, if_pos (by omega), if_pos g1, if_pos g2, if_pos g3, hw]
      · rw [dif_neg hlt] at hd'; cases hd'
    · rw [if_neg hd] at hst
      have hd' := hd
      rw [headIs_drop] at hd'
      refine Ev.step (f := fun k => token_Scan.l0 k s (x8 ++ [(⟨3, mkS ((c :: r).take n), (⟨(pre.length : Int), ((pre.length + n : Nat) : Int)⟩ : S33)⟩ : S36)]) x9 ((pre.length + n : Nat) : Int) nameB) (fun k => ?_) (go_tok ih hm h h8 h9 hst rfl rfl)
      simp only [token_Scan.j6]
      rw [if_pos (by omega), if_pos (by omega), hT, hq]
      simp only [Option.bind_some]
      rw [if_pos hqn, hw]
      by_cases hlt : n < (c :: r).length
      · rw [dif_pos hlt] at hd'
        obtain ⟨⟨g1, g2⟩, g3⟩ := name_test hlt (Bool.eq_false_iff.mpr hd') hB
        have hlt' : n < r.length + 1 := by simpa using hlt
        rw [if_pos (by omega), if_pos g1, if_pos g2, if_neg (by rw [g3]; simp), if_pos g8]
      · simp only [List.length_cons] at hlt
        rw [if_neg (by omega), if_pos g8]
  · rw [Bool.eq_false_iff.mpr hnum] at hqn hst
    simp only [Bool.not_false, if_true] at hst
    refine Ev.step (f := fun _ => some (([] : List S36), ([] : List S33), (pre.length : Int), 2)) (fun k => ?_) (go_err hst (by simp) rfl)
    simp only [token_Scan.j6]
    rw [if_pos (by omega), if_pos (by omega), hT, hq]
    simp only [Option.bind_some]
    rw [if_neg (by rw [hqn]; simp)]
theorem go_l2 (ih : Goes s m) (hs : s.size ≤ 65536) (hm : (c :: r).length ≤ m + 1) (h : lst s = pre ++ c :: r) (h8 : x8.length ≤ pre.length) (h9 : x9.length ≤ pre.length) {B : ByteArray} (hB : lst B = c :: r) (hBs : B.size ≤ 65536)
    (hst : step c r last = if !isNum ((c :: r).take (1 + (r.takeWhile isDig).length)) then .err 0 2 else if headIs isName ((c :: r).drop (1 + (r.takeWhile isDig).length)) then .err (1 + (r.takeWhile isDig).length) 4 else .tok 3 (1 + (r.takeWhile isDig).length)) :
    Ev (fun k => token_Scan.l2 k s x8 x9 (pre.length : Int) B 1 nameB) (out x8 x9 (scan (m + 1) pre.length (c :: r) last)) :=
  run2 s B hBs x8 x9 _ _ r [c] hB (go_j6 ih hs hm h h8 h9 hB _ rfl hst)
set_option maxHeartbeats 4000000 in
theorem go_j3 (ih : Goes s m) (hs : s.size ≤ 65536) (hm : (c :: r).length ≤ m + 1) (h : lst s = pre ++ c :: r) (hlast : lastS x8 = up last) (h8 : x8.length ≤ pre.length) (h9 : x9.length ≤ pre.length) {B : ByteArray} (hB : lst B = c :: r) (hBs : B.size ≤ 65536)
    (hw1 : isWhite c = false) (hw2 : (isDash c && headIs isDash r) = false) (n : Nat) (hn : n = 1 + (r.takeWhile isName).length) :
    Ev (fun k => token_Scan.j3 k s x8 x9 (pre.length : Int) (c.toNat : Int) B (n : Int) (isName c && !isDig c && !isLow c) nameB) (out x8 x9 (scan (m + 1) pre.length (c :: r) last)) := by
  have hps : pre.length + r.length + 1 ≤ 65536 := by rw [size_lst, h] at hs; simp at hs; omega
  have g8 : x8.length < 3518437208883 := small8 (Nat.le_trans h8 (by omega))
  have hle := takeWhile_len isName r
  have hBl : B.size = r.length + 1 := by rw [size_lst, hB]; simp
  have hT : B.extract 0 (n : Int).toNat = mkS ((c :: r).take n) := cut_to B _ hB n
  have hw : wrap64 ((pre.length : Int) + (n : Int)) = ((pre.length + n : Nat) : Int) := by rw [wrap_ok (by omega) (by omega)]; omega
  have hst : step c r last = step c r last := rfl
  conv at hst => rhs; unfold step
  rw [hw1, hw2] at hst
  simp only [Bool.false_eq_true, if_false] at hst
  by_cases hname : (isName c && !isDig c && !isLow c) = true
  · rw [if_pos hname, ← hn] at hst
    rw [hname]
    have hlt : ((c :: r).take n).length = n := by simp; omega
    have hcons : (c :: r).take n = c :: r.take (n - 1) := by rw [hn, Nat.add_comm, List.take_succ_cons]; simp
    have hwd := word_eq (mkS ((c :: r).take n)) c (r.take (n - 1)) (by rw [lst_mkS, hcons])
    rw [← hcons, hlt] at hwd
    by_cases h32 : 32 < n
    · rw [if_pos h32] at hst hwd
      refine Ev.step (f := fun _ => some (([] : List S36), ([] : List S33), (pre.length : Int), 5)) (fun k => ?_) (go_err hst (by simp) rfl)
      simp only [token_Scan.j3]
      rw [if_pos trivial, if_pos (by omega), if_pos (by omega), hT, hwd]
      simp
    · rw [if_neg h32] at hst hwd
      refine Ev.step (fun k => ?_) (go_tok ih hm h h8 h9 hst rfl rfl)
      simp only [token_Scan.j3]
      rw [if_pos trivial, if_pos (by omega), if_pos (by omega), hT, hwd]
      simp only [Option.bind_some]
      rw [if_pos trivial, if_pos g8, hw]
  · rw [if_neg hname] at hst
    rw [Bool.eq_false_iff.mpr hname]
    have hj4 : ∀ b, b = (isDig c || (isDash c && headIs isDig r && sgn last)) → Ev (fun k => token_Scan.j4 k s x8 x9 (pre.length : Int) (c.toNat : Int) B (n : Int) b nameB) (out x8 x9 (scan (m + 1) pre.length (c :: r) last)) := by
      intro b hb
      by_cases hnum : (isDig c || (isDash c && headIs isDig r && sgn last)) = true
      · rw [if_pos hnum] at hst
        rw [hnum] at hb
        subst hb
        refine Ev.step (f := fun k => token_Scan.l2 k s x8 x9 (pre.length : Int) B 1 nameB) (fun k => ?_) (go_l2 ih hs hm h h8 h9 hB hBs hst)
        simp only [token_Scan.j4]
        rw [if_pos trivial]
      · rw [if_neg hnum] at hst
        rw [Bool.eq_false_iff.mpr hnum] at hb
        subst hb
        refine Ev.step (f := fun k => token_Scan.j7 k s x8 x9 (pre.length : Int) B (isLow c && headIs isName r) nameB) (fun k => ?_) (go_j7 ih hs hm h h8 h9 hB _ rfl hst)
        simp only [token_Scan.j4]
        rw [if_neg (by simp)]
        by_cases hlow : c.toNat = 95
        · rw [if_pos (by omega)]
          have e1 : isLow c = true := by simp [isLow, hlow]
          have e2 : decide ((n : Int) > 1) = headIs isName r := by
            rw [hn]
            cases r with
            | nil => rfl
            | cons d r => by_cases hd : isName d = true <;> simp [headIs, hd]; omega
          rw [e1, e2, Bool.true_and]
        · rw [if_neg (by omega)]
          have e1 : isLow c = false := by simp [isLow, hlow]
          rw [e1, Bool.false_and]
    by_cases hdig : isDig c = true
    · refine Ev.step (f := fun k => token_Scan.j4 k s x8 x9 (pre.length : Int) (c.toNat : Int) B (n : Int) true nameB) (fun k => ?_) (hj4 true (by rw [hdig]; rfl))
      simp only [token_Scan.j3]
      rw [if_neg (by simp), digit_eq]
      simp only [Option.bind_some]
      rw [if_pos hdig]
    · have hdig' := Bool.eq_false_iff.mpr hdig
      by_cases hdash : c.toNat = 45
      · have e1 : isDash c = true := by simp [isDash, hdash]
        cases r with
        | nil =>
          refine Ev.step (f := fun k => token_Scan.j4 k s x8 x9 (pre.length : Int) (c.toNat : Int) B (n : Int) false nameB) (fun k => ?_) (hj4 false (by rw [hdig']; simp [headIs]))
          simp only [token_Scan.j3]
          rw [if_neg (by simp), digit_eq]
          simp only [Option.bind_some]
          simp only [List.length_nil] at hBl
          rw [if_neg hdig, if_pos (by omega), if_neg (by omega)]
        | cons d r =>
          have hb : bt B 1 = (d.toNat : Int) := bt_mid (s := B) (pre := [c]) hB
          simp only [List.length_cons] at hBl
          have hsg := signed_eq x8 last hlast (by omega)
          by_cases hd : isDig d = true
          · refine Ev.step (f := fun k => token_Scan.j4 k s x8 x9 (pre.length : Int) (c.toNat : Int) B (n : Int) (sgn last) nameB) (fun k => ?_) (hj4 (sgn last) (by rw [hdig', e1]; simp [headIs, hd]))
            simp only [token_Scan.j3]
            rw [if_neg (by simp), digit_eq]
            simp only [Option.bind_some]
            rw [if_neg hdig, if_pos (by omega), if_pos (by omega), if_pos (by omega), hb, digit_eq]
            simp only [Option.bind_some]
            rw [if_pos hd, hsg]
            simp only [Option.bind_some]
          · refine Ev.step (f := fun k => token_Scan.j4 k s x8 x9 (pre.length : Int) (c.toNat : Int) B (n : Int) false nameB) (fun k => ?_) (hj4 false (by rw [hdig', e1]; simp [headIs, hd]))
            simp only [token_Scan.j3]
            rw [if_neg (by simp), digit_eq]
            simp only [Option.bind_some]
            rw [if_neg hdig, if_pos (by omega), if_pos (by omega), if_pos (by omega), hb, digit_eq]
            simp only [Option.bind_some]
            rw [if_neg hd]
      · have e1 : isDash c = false := by simp [isDash, hdash]
        refine Ev.step (f := fun k => token_Scan.j4 k s x8 x9 (pre.length : Int) (c.toNat : Int) B (n : Int) false nameB) (fun k => ?_) (hj4 false (by rw [hdig', e1]; rfl))
        simp only [token_Scan.j3]
        rw [if_neg (by simp), digit_eq]
        simp only [Option.bind_some]
        rw [if_neg hdig, if_neg (by omega)]
theorem go_l1 (ih : Goes s m) (hs : s.size ≤ 65536) (hm : (c :: r).length ≤ m + 1) (h : lst s = pre ++ c :: r) (hlast : lastS x8 = up last) (h8 : x8.length ≤ pre.length) (h9 : x9.length ≤ pre.length) {B : ByteArray} (hB : lst B = c :: r) (hBs : B.size ≤ 65536)
    (hw1 : isWhite c = false) (hw2 : (isDash c && headIs isDash r) = false) :
    Ev (fun k => token_Scan.l1 k s x8 x9 (pre.length : Int) (c.toNat : Int) B 1 nameB) (out x8 x9 (scan (m + 1) pre.length (c :: r) last)) := by
  refine run1 s B hBs x8 x9 _ _ _ r [c] hB ?_
  have hj3 := go_j3 ih hs hm h hlast h8 h9 hB hBs hw1 hw2 _ rfl
  have h256 := c.toNat_lt
  refine Ev.step (fun k => ?_) hj3
  simp only [token_Scan.j2, List.length_singleton]
  by_cases hlow : c.toNat = 95
  · rw [if_pos (by omega)]
    have e1 : isLow c = true := by simp [isLow, hlow]
    rw [e1]; simp
  · rw [if_neg (by omega), if_pos (by omega), if_pos (by omega), Int.toNat_natCast]
    have e1 : isLow c = false := by simp [isLow, hlow]
    rw [e1, digit_eq]
    simp only [Option.bind_some]
    by_cases hnm : isName c = true
    · rw [if_pos (show nameB c.toNat = true from hnm), hnm]; simp
    · rw [if_neg (show ¬ nameB c.toNat = true from hnm), Bool.eq_false_iff.mpr hnm]; simp
end
set_option maxHeartbeats 4000000 in
/-- The whole loop. -/
theorem goes (s : ByteArray) (hs : s.size ≤ 65536) : ∀ m, Goes s m := by
  intro m
  induction m with
  | zero =>
    intro r pre x8 x9 last hm h hlast h8 h9
    obtain rfl : r = [] := List.eq_nil_of_length_eq_zero (by omega)
    have hl : s.size = pre.length := by rw [size_lst, h]; simp
    refine Ev.step (f := fun _ => some (out x8 x9 (scan 0 pre.length [] last))) (fun k => ?_) (Ev.now _)
    simp only [token_Scan.l0]
    rw [if_neg (by omega), if_pos (small8 (by omega))]
    simp [scan, out, toS, toP, mkS]
  | succ m ih =>
    intro r pre x8 x9 last hm h hlast h8 h9
    cases r with
    | nil =>
      have hl : s.size = pre.length := by rw [size_lst, h]; simp
      refine Ev.step (f := fun _ => some (out x8 x9 (scan (m + 1) pre.length [] last))) (fun k => ?_) (Ev.now _)
      simp only [token_Scan.l0]
      rw [if_neg (by omega), if_pos (small8 (by omega))]
      simp [scan, out, toS, toP, mkS]
    | cons c r =>
      have hl : pre.length < s.size := by rw [size_lst]; exact mid_lt h
      have hb := bt_mid h
      have hB : lst (s.extract (pre.length : Int).toNat s.size) = c :: r := cut_all h
      have hBs : (s.extract (pre.length : Int).toNat s.size).size = r.length + 1 := by rw [size_lst, hB]; simp
      have hps : pre.length + r.length + 1 ≤ 65536 := by rw [size_lst, h] at hs; simp at hs; omega
      have hi : strings_IndexByte.f (⟨#[32, 9, 13, 10]⟩ : ByteArray) (bt s (pre.length : Int)) = some (Lib.indexByte [32, 9, 13, 10] c) := by
        unfold strings_IndexByte.f
        rw [hb, toU8]
      have hwh : decide (Lib.indexByte [32, 9, 13, 10] c ≥ 0) = isWhite c := (idx_pos _ _).trans (white_eq c)
      have head : ∀ k, token_Scan.l0 (k + 1) s x8 x9 (pre.length : Int) nameB = if isWhite c = true then token_Scan.l0 k s x8 x9 (wrap64 ((pre.length : Int) + 1)) nameB else ((strings_HasPrefix.f (s.extract (pre.length : Int).toNat s.size) (⟨#[45, 45]⟩ : ByteArray)).bind fun t118 => (if t118 = true then ((strings_IndexByte.f (s.extract (pre.length : Int).toNat s.size) 10).bind fun t119 => (if t119 < 0 then (if x9.length < 8796093022208 then (token_Scan.l0 k s x8 (x9 ++ [(⟨(pre.length : Int), wrap64 ((pre.length : Int) + ((s.extract (pre.length : Int).toNat s.size).size : Int))⟩ : S33)]) (wrap64 ((pre.length : Int) + ((s.extract (pre.length : Int).toNat s.size).size : Int))) nameB) else (none)) else (if x9.length < 8796093022208 then (token_Scan.l0 k s x8 (x9 ++ [(⟨(pre.length : Int), wrap64 ((pre.length : Int) + t119)⟩ : S33)]) (wrap64 ((pre.length : Int) + t119)) nameB) else (none)))) else (token_Scan.l1 k s x8 x9 (pre.length : Int) (bt s (pre.length : Int)) (s.extract (pre.length : Int).toNat s.size) 1 nameB))) := by
        intro k
        simp only [token_Scan.l0]
        rw [if_pos (by omega), if_pos (by omega), if_pos (by omega), hi]
        simp only [Option.bind_some]
        rw [hwh]
      by_cases hwc : isWhite c = true
      · have := ih r (pre ++ [c]) x8 x9 last (by simpa using hm) (by rw [h]; simp) hlast (by simp; omega) (by simp; omega)
        have e : step c r last = .white := by unfold step; rw [if_pos hwc]
        simp only [scan, e]
        rw [show (pre ++ [c]).length = pre.length + 1 by simp] at this
        refine Ev.step (fun k => ?_) this
        rw [head k, if_pos hwc, wrap_ok (by omega) (by omega)]
        rfl
      · have hw1 := Bool.eq_false_iff.mpr hwc
        have hpr := prefix_eq _ c r hB
        by_cases hds : (isDash c && headIs isDash r) = true
        · have e : step c r last = .note ((c :: r).takeWhile notLf).length := by unfold step; rw [if_neg hwc, if_pos hds]
          have hrl := takeWhile_len notLf (c :: r)
          have hpos : 1 ≤ ((c :: r).takeWhile notLf).length := by
            have : notLf c = true := by
              simp only [Bool.and_eq_true, isDash, decide_eq_true_eq] at hds
              simp only [notLf, decide_eq_true_eq]; omega
            rw [List.takeWhile_cons, if_pos this]; simp
          have hidx : strings_IndexByte.f (s.extract (pre.length : Int).toNat s.size) 10 = some (Lib.indexByte (c :: r) 10) := by
            unfold strings_IndexByte.f
            show some (Lib.indexByte (lst _) 10) = _
            rw [hB]
          rw [idx_run] at hidx
          simp only [scan, e]
          rw [out_addN]
          generalize hn : ((c :: r).takeWhile notLf).length = n at *
          have hl2 : ((c :: r).take n).length = n := by simp; simp at hrl; omega
          have e2 : pre.length + n = (pre ++ (c :: r).take n).length := by rw [List.length_append, hl2]
          simp only [List.length_cons] at hrl hidx
          have := ih ((c :: r).drop n) (pre ++ (c :: r).take n) x8 (x9 ++ [toP (pre.length, pre.length + n)]) last (by simp at hm ⊢; omega)
            (by rw [h, List.append_assoc, List.take_append_drop]) hlast (by rw [← e2]; omega) (by rw [← e2]; simp; omega)
          rw [← e2] at this
          refine Ev.step (fun k => ?_) this
          rw [head k, if_neg hwc, hpr, hds]
          simp only [Option.bind_some, if_true]
          rw [hidx]
          simp only [Option.bind_some]
          by_cases hlt : n < r.length + 1
          · rw [if_pos hlt, if_neg (by omega), if_pos (small9 (by omega)), wrap_ok (by omega) (by omega)]
            rfl
          · have hn2 : n = r.length + 1 := by omega
            rw [if_neg hlt, if_pos (by omega), if_pos (small9 (by omega)), hBs, wrap_ok (by omega) (by omega), hn2]
            rfl
        · have hw2 := Bool.eq_false_iff.mpr hds
          refine Ev.step (fun k => ?_) (go_l1 ih hs hm h hlast h8 h9 hB (by omega) hw1 hw2)
          rw [head k, if_neg hwc, hpr, hw2, hb]
          simp only [Option.bind_some, Bool.false_eq_true, if_false]
/-- Scan of the program. -/
theorem token_Scan_ev (s : ByteArray) (hs : s.size ≤ 65536) : Ev (fun k => token_Scan.f k s) (if bad 0 (lst s) ≥ 0 then ([], [], bad 0 (lst s), 25) else out [] [] (scan (lst s).length 0 (lst s) none)) := by
  have hw := wrong_ev s hs (lst s) [] rfl
  simp only [List.length_nil, Int.natCast_zero] at hw
  refine Ev.congr (f := fun k => (token_wrong.f k s).bind fun t109 => (if t109 ≥ 0 then (some (([] : List (S36)), ([] : List (S33)), t109, 25)) else ((token_names.f).bind fun t110 => (token_Scan.l0 k s ([] : List (S36)) ([] : List (S33)) 0 t110)))) (fun k => ?_) (Ev.bind hw ?_)
  · unfold token_Scan.f
    rw [if_neg (by omega)]
  · by_cases hb : bad 0 (lst s) ≥ 0
    · rw [if_pos hb]
      exact Ev.congr (fun k => if_pos hb) (Ev.now _)
    · rw [if_neg hb]
      refine Ev.congr (fun k => if_neg hb) ?_
      exact goes s hs (lst s).length (lst s) [] [] [] none (Nat.le_refl _) rfl rfl (by simp) (by simp)
end Go.Proofs.YtenjbcjekjmaeaaDoor.PTok
