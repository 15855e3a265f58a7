/- The plain laws of the reference's numerals read. No conditions. -/
import Derived.Test.YtieaiheejhmbfaaGreatDoorPk32
import Derived.Test.YtieaiheejhmbfaaGreatDoorPk22
import Derived.Test.YtieaiheejhmbfaaGreatDoorPk18
namespace Go.Proofs.YtieaiheejhmbfaaGreatDoor.ML
open Go.RowKit
set_option linter.unusedVariables false
set_option linter.unusedSimpArgs false
/-- A word that is read as a number. -/
def intF (w : ByteArray) : Option Int := if NumW w then (match Lib.parseIntB 64 w.data.toList with | .ok v => some v | _ => none) else none
def dvA (acc : Nat) (l : List UInt8) : Nat := l.foldl (fun a c => a * 10 + (c.toNat - 48)) acc
def Dgs (l : List UInt8) : Prop := ∀ c ∈ l, 48 ≤ c.toNat ∧ c.toNat ≤ 57
theorem dvA_ge : ∀ (l : List UInt8) (acc : Nat), acc ≤ dvA acc l
  | [], acc => Nat.le_refl _
  | c :: l, acc => by have := dvA_ge l (acc * 10 + (c.toNat - 48)); unfold dvA at this ⊢; rw [List.foldl_cons]; omega
theorem dvA_take (l : List UInt8) (i : Nat) (h : i < l.length) : dvA 0 (l.take (i + 1)) = dvA 0 (l.take i) * 10 + (l[i].toNat - 48) := by
  unfold dvA; rw [take_succ _ _ h, List.foldl_append]; rfl
theorem dvA_le (l : List UInt8) (i : Nat) : dvA 0 (l.take i) ≤ dvA 0 l := by
  have : dvA 0 l = dvA (dvA 0 (l.take i)) (l.drop i) := by unfold dvA; rw [← List.foldl_append, List.take_append_drop]
  rw [this]; exact dvA_ge _ _
theorem pu_dg : ∀ (l : List UInt8) (acc : Nat), Dgs l → acc ≤ 18446744073709551615 → Lib.parseUintM 18446744073709551615 acc l = if dvA acc l ≤ 18446744073709551615 then .ok (dvA acc l) else .range
  | [], acc, _, ha => by rw [Lib.parseUintM, show dvA acc [] = acc from rfl, if_pos ha]
  | c :: l, acc, hd, ha => by
    have hc := hd c (List.mem_cons_self ..)
    have e : dvA acc (c :: l) = dvA (acc * 10 + (c.toNat - 48)) l := rfl
    have hg := dvA_ge l (acc * 10 + (c.toNat - 48))
    rw [Lib.parseUintM, if_pos hc, e]
    split
    · rw [if_neg (by omega)]
    · split
      · rw [if_neg (by omega)]
      · exact pu_dg l _ (fun x hx => hd x (List.mem_cons_of_mem _ hx)) (by omega)
theorem pub_dg (l : List UInt8) (hl : l ≠ []) (hd : Dgs l) : Lib.parseUintB 64 l = if dvA 0 l ≤ 18446744073709551615 then .ok (dvA 0 l) else .range := by
  unfold Lib.parseUintB
  rw [if_neg hl]
  exact pu_dg l 0 hd (by omega)
theorem byt_list (w : ByteArray) (i : Nat) (h : i < w.data.toList.length) : byt w (i : Int) = ((w.data.toList[i]).toNat : Int) := by
  rw [byt_nat, List.getD_eq_getElem?_getD, List.getElem?_eq_getElem h, Option.getD_some]
theorem size_list (w : ByteArray) : w.data.toList.length = w.size := Array.length_toList
/-- A word without a sign. -/
theorem int_pos {w : ByteArray} (h0 : 0 < w.size) (hd : Dgs w.data.toList) : intF w = if dvA 0 w.data.toList < 9223372036854775808 then some (dvA 0 w.data.toList : Int) else none := by
  have hN : NumW w := fun i hi hh => by
    have := hd _ (List.getElem_mem (by rw [size_list]; exact hi) : w.data.toList[i]'(by rw [size_list]; exact hi) ∈ _)
    rw [byt_list w i (by rw [size_list]; exact hi)] at hh
    omega
  unfold intF
  rw [if_pos hN]
  obtain ⟨c, r, e⟩ : ∃ c r, w.data.toList = c :: r := by
    cases h : w.data.toList with
    | nil => have := size_list w; rw [h] at this; simp at this; omega
    | cons c r => exact ⟨c, r, rfl⟩
  have hp := pub_dg w.data.toList (by rw [e]; simp) hd
  have hc := hd c (by rw [e]; exact List.mem_cons_self ..)
  rw [e] at hp ⊢
  unfold Lib.parseIntB
  dsimp only
  rw [if_neg (by omega), hp]
  by_cases h1 : dvA 0 (c :: r) ≤ 18446744073709551615
  · rw [if_pos h1]
    dsimp only
    by_cases h2 : dvA 0 (c :: r) < 9223372036854775808
    · rw [if_neg (fun hh => by have := hh.2; omega), if_neg (fun hh => by have := hh.1; omega), if_neg (by omega), if_pos h2]
    · rw [if_pos ⟨by omega, by omega⟩, if_neg h2]
  · rw [if_neg h1, if_neg (by omega)]
/-- A word with a minus. -/
theorem int_neg {w : ByteArray} {r : List UInt8} (e : w.data.toList = 45 :: r) (hd : Dgs r) : intF w = if r ≠ [] ∧ dvA 0 r ≤ 9223372036854775808 then some (-(dvA 0 r : Int)) else none := by
  have hsz := size_list w
  have hN : NumW w := fun i hi hh => by
    rw [byt_list w i (by rw [size_list]; exact hi)] at hh
    cases i with
    | zero =>
      have : w.data.toList[0]'(by rw [size_list]; exact hi) = 45 := by simp [e]
      rw [this] at hh
      rcases hh.2 with h | h
      · omega
      · exact h (by decide)
    | succ i =>
      have hi2 : i < r.length := by rw [e] at hsz; simp at hsz; omega
      have : w.data.toList[i + 1]'(by rw [size_list]; exact hi) = r[i] := by simp [e]
      rw [this] at hh
      have := hd _ (List.getElem_mem hi2)
      omega
  unfold intF
  rw [if_pos hN, e]
  unfold Lib.parseIntB
  dsimp only
  rw [if_pos (.inr (by decide))]
  by_cases hr : r = []
  · subst hr
    rw [if_neg (fun hh => hh.1 rfl)]
    rfl
  · rw [pub_dg r hr hd]
    by_cases h1 : dvA 0 r ≤ 18446744073709551615
    · rw [if_pos h1]
      dsimp only
      rw [if_neg (fun hh => hh.1 (by decide))]
      by_cases h2 : dvA 0 r ≤ 9223372036854775808
      · rw [if_neg (fun hh => by have := hh.2; omega), if_pos (by decide), if_pos ⟨hr, h2⟩]
      · rw [if_pos ⟨by decide, by omega⟩, if_neg (fun hh => h2 hh.2)]
    · rw [if_neg h1, if_neg (fun hh => by have := hh.2; omega)]
theorem int_empty {w : ByteArray} (h : w = ⟨#[]⟩) : intF w = none := by
  subst h
  unfold intF
  split <;> rfl
theorem int_bad {w : ByteArray} (i : Nat) (hi : i < w.size) (h : byt w (i : Int) < 48 ∨ 57 < byt w i) (h2 : 0 < i ∨ byt w 0 ≠ 45) : intF w = none := by
  unfold intF
  rw [if_neg (fun hN => hN i hi ⟨h, by rcases h2 with h2 | h2; exact .inl h2; by_cases hz : i = 0; (subst hz; exact .inr h2); exact .inl (by omega)⟩)]
theorem ext1 {w : ByteArray} (h0 : 0 < w.size) (h : byt w 0 = 45) : w.data.toList = 45 :: (w.extract 1 w.size).data.toList := by
  obtain ⟨c, r, e⟩ : ∃ c r, w.data.toList = c :: r := by
    cases h : w.data.toList with
    | nil => have := size_list w; rw [h] at this; simp at this; omega
    | cons c r => exact ⟨c, r, rfl⟩
  have hc : c = 45 := by
    have h1 := byt_list w 0 (by rw [size_list]; exact h0)
    simp only [e, List.getElem_cons_zero, Int.natCast_zero] at h1
    rw [h1] at h
    exact UInt8.toNat_inj.1 (by have : c.toNat = 45 := by exact_mod_cast h
                                rw [this]; rfl)
  have hl := size_list w
  rw [ByteArray.data_extract, Array.toList_extract, e, hc]
  rw [e] at hl
  simp only [List.length_cons] at hl
  simp [← hl]
/-- What is left behind the sign. -/
def Body (w s : ByteArray) (neg : Bool) : Prop := (neg = true ∧ w.data.toList = 45 :: s.data.toList) ∨ (neg = false ∧ s = w ∧ ¬ (0 < w.size ∧ byt w 0 = 45))
theorem body_bad {w s : ByteArray} {neg : Bool} (h : Body w s neg) (i : Nat) (hi : i < s.size) (hb : byt s (i : Int) < 48 ∨ 57 < byt s i) : intF w = none := by
  rcases h with ⟨_, e⟩ | ⟨_, rfl, h2⟩
  · have hl := size_list w
    have hl2 := size_list s
    rw [e] at hl
    simp only [List.length_cons] at hl
    refine int_bad (i + 1) (by omega) ?_ (.inl (by omega))
    rw [byt_list w (i + 1) (by rw [size_list]; omega)]
    rw [byt_list s i (by rw [size_list]; exact hi)] at hb
    have : w.data.toList[i + 1]'(by rw [size_list]; omega) = s.data.toList[i]'(by rw [size_list]; exact hi) := by simp [e]
    rw [this]
    exact hb
  · refine int_bad i hi hb (.inr fun h => h2 ⟨by omega, h⟩)
theorem body_over {w s : ByteArray} {neg : Bool} (h : Body w s neg) (j : Nat) (hv : 9223372036854775808 < dvA 0 (s.data.toList.take j)) : intF w = none := by
  have hge := dvA_le s.data.toList j
  by_cases hd : Dgs s.data.toList
  · rcases h with ⟨_, e⟩ | ⟨_, rfl, h2⟩
    · rw [int_neg e hd, if_neg (fun hh => by have := hh.2; omega)]
    · by_cases h0 : 0 < s.size
      · rw [int_pos h0 hd, if_neg (by omega)]
      · have e : s = ⟨#[]⟩ := by
          apply ByteArray.ext
          apply Array.eq_empty_of_size_eq_zero
          have : s.data.size = s.size := rfl
          omega
        exact int_empty e
  · simp only [Dgs] at hd
    obtain ⟨c, hd⟩ := Classical.not_forall.1 hd
    obtain ⟨hc, hd⟩ := Classical.not_imp.1 hd
    obtain ⟨i, hi, rfl⟩ := List.getElem_of_mem hc
    refine body_bad h i (by rw [← size_list]; exact hi) ?_
    rw [byt_list s i hi]
    omega
theorem body_empty {w s : ByteArray} {neg : Bool} (h : Body w s neg) (hs : s = ⟨#[]⟩) : intF w = none := by
  subst hs
  rcases h with ⟨_, e⟩ | ⟨_, rfl, h2⟩
  · rw [int_neg (r := []) (by simpa using e) (fun c hc => by simp at hc), if_neg (fun hh => hh.1 rfl)]
  · exact int_empty rfl
theorem body_neg {w s : ByteArray} (h : Body w s true) (hs : s ≠ ⟨#[]⟩) (hd : Dgs s.data.toList) (hv : dvA 0 s.data.toList ≤ 9223372036854775808) : intF w = some (-(dvA 0 s.data.toList : Int)) := by
  rcases h with ⟨_, e⟩ | ⟨h, _⟩
  · rw [int_neg e hd, if_pos ⟨fun hr => hs (by apply ByteArray.ext; apply Array.toList_inj.1; rw [hr]), hv⟩]
  · cases h
theorem body_pos {w s : ByteArray} (h : Body w s false) (hs : s ≠ ⟨#[]⟩) (hd : Dgs s.data.toList) : intF w = if dvA 0 s.data.toList < 9223372036854775808 then some (dvA 0 s.data.toList : Int) else none := by
  rcases h with ⟨h, _⟩ | ⟨_, rfl, _⟩
  · cases h
  · exact int_pos (size_pos hs) hd
theorem dgs_take {l : List UInt8} {i : Nat} (h : i < l.length) (hd : Dgs (l.take i)) (hb : 48 ≤ l[i].toNat ∧ l[i].toNat ≤ 57) : Dgs (l.take (i + 1)) := fun c hc => by
  rw [take_succ _ _ h] at hc
  rcases List.mem_append.1 hc with hc | hc
  · exact hd c hc
  · simp at hc; subst hc; exact hb
theorem wd_int {w : ByteArray} (h : ¬ (w ≠ ⟨#[]⟩ ∧ 65 ≤ byt w 0 ∧ byt w 0 ≤ 90)) : wdF w = (intF w).map fun n => ⟨⟨#[]⟩, n, []⟩ := by
  by_cases h0 : w = ⟨#[]⟩
  · rw [int_empty h0, wdF, if_pos h0]; rfl
  · rw [wdF, if_neg h0, if_neg (fun hh => h ⟨h0, hh⟩), intF]
    split
    · cases Lib.parseIntB 64 w.data.toList <;> rfl
    · rfl
theorem word_bd {s w : ByteArray} {a : Nat} {bd : Bool} (hwx : s.extract a (wE s a) = w) (h : bd = true ↔ (wE s a < s.size ∧ byt s (wE s a) = 45)) : wordF s a = if bd then none else wdF w := by
  cases bd with
  | true => rw [word_1 (h.1 rfl)]; rfl
  | false => rw [word_n (fun hh => by have := h.2 hh; cases this) hwx]; rfl
theorem wd_some {s w : ByteArray} {a : Nat} {bd : Bool} {t : TT} (e : wordF s a = if bd then none else wdF w) (h : wdF w = some t) : (wordF s a).isNone = bd ∧ ∀ t', wordF s a = some t' → t' = t := by
  rw [e, h]
  cases bd with
  | true => exact ⟨rfl, fun t' h => by cases h⟩
  | false => exact ⟨rfl, fun t' h => by cases h; rfl⟩
theorem wd_i {s w : ByteArray} {a : Nat} {bd ok : Bool} {ni : Int} (e : wordF s a = if bd then none else wdF w) (h : wdF w = (intF w).map fun n => ⟨⟨#[]⟩, n, []⟩) (hok : ok = (intF w).isSome) (hn : ∀ n', intF w = some n' → ni = n') : (wordF s a).isNone = (bd || !ok) ∧ ∀ t', wordF s a = some t' → t' = ⟨⟨#[]⟩, ni, []⟩ := by
  rw [e, h]
  subst hok
  cases bd with
  | true => exact ⟨rfl, fun t' h => by cases h⟩
  | false =>
    cases hi : intF w with
    | none => exact ⟨rfl, fun t' h => by cases h⟩
    | some n => rw [hn n hi]; exact ⟨rfl, fun t' h => by cases h; rfl⟩
end Go.Proofs.YtieaiheejhmbfaaGreatDoor.ML
/- Walks of functions of the program, in the abstract layer. No conditions. -/
namespace Go.Proofs.YtieaiheejhmbfaaGreatDoor.ML
open Go.RowKit
set_option linter.unusedVariables false
set_option linter.unusedSimpArgs false
set_option maxHeartbeats 1600000 in
set_option synthInstance.maxHeartbeats 400000 in
set_option synthInstance.maxSize 100000 in
set_option maxRecDepth 100000 in
theorem r_letter_c (M : Mem) (H : Heap) (c : Int) :
    AC Tryz.prog 104 [.int .u8 c] M H fun r _ H' => r = .bool (ltP c) ∧ H' = H := by
  refine AC.of (n := 28) Tryz.func104 rfl rfl ?_
  dsimp only [List.replicate, List.cons_append, List.nil_append]
  refine AW.seq ?_
  refine AW.region ?_
  refine st V.assign ?_
  refine sn ?_
  refine AW.seq ?_
  refine AW.region ?_
  refine st V.move ?_
  refine st V.geq ?_
  refine st V.move ?_
  refine onoff false rfl rfl (fun h1 => ?_) (fun h1 => ?_)
  ·
    have k1 := bp h1
    refine st V.move ?_
    refine on rfl h1 ?_
    refine st V.leq ?_
    refine st (V.pT h1) ?_
    refine st V.move ?_
    refine onoff true rfl rfl (fun h2 => ?_) (fun h2 => ?_)
    ·
      have k2 := bp h2
      refine st V.move ?_
      refine on rfl h2 ?_
      refine st V.geq ?_
      refine on rfl h2 ?_
      refine st V.move ?_
      refine onoff false rfl rfl (fun h3 => ?_) (fun h3 => ?_)
      ·
        have k3 := bp h3
        refine st V.move ?_
        refine on rfl h3 ?_
        refine st V.leq ?_
        refine on rfl h2 ?_
        refine st (V.pT h3) ?_
        refine st (V.pF h2) ?_
        refine st V.move ?_
        refine onoff true rfl rfl (fun h4 => ?_) (fun h4 => ?_)
        ·
          have k4 := bp h4
          refine st V.move ?_
          refine on rfl h4 ?_
          refine st V.geq ?_
          refine on rfl h4 ?_
          refine st V.move ?_
          refine onoff false rfl rfl (fun h5 => ?_) (fun h5 => ?_)
          ·
            have k5 := bp h5
            refine st V.move ?_
            refine on rfl h5 ?_
            refine st V.leq ?_
            refine on rfl h4 ?_
            refine st (V.pT h5) ?_
            refine st (V.pF h4) ?_
            refine st V.move ?_
            refine onoff true rfl rfl (fun h6 => ?_) (fun h6 => ?_)
            ·
              have k6 := bp h6
              refine st V.move ?_
              refine on rfl h6 ?_
              refine st V.eql ?_
              refine st (V.pF h6) ?_
              refine st V.assign ?_
              refine sn ?_
              refine AW.ret ?_
              repeat with_reducible first | refine thn_ret ?_ | refine inb_ret ?_
              refine fin (Res.i1 rfl) ?_
              exact ⟨_, (by repeat first | exact List.Sublist.refl _ | apply List.Sublist.cons), by unfold ltP; congr 1; first | (symm; exact decide_eq_true (by omega)) | (symm; exact decide_eq_false (by omega)) | (rw [decide_eq_decide]; omega), rfl⟩
            ·
              have k6 := bp h6
              refine off rfl h6 ?_
              refine st (V.pT h6) ?_
              refine st V.assign ?_
              refine sn ?_
              refine AW.ret ?_
              repeat with_reducible first | refine thn_ret ?_ | refine inb_ret ?_
              refine fin (Res.i1 rfl) ?_
              exact ⟨_, (by repeat first | exact List.Sublist.refl _ | apply List.Sublist.cons), by unfold ltP; congr 1; first | (symm; exact decide_eq_true (by omega)) | (symm; exact decide_eq_false (by omega)) | (rw [decide_eq_decide]; omega), rfl⟩
          ·
            have k5 := bp h5
            refine off rfl h5 ?_
            refine on rfl h4 ?_
            refine st (V.pF h5) ?_
            refine st (V.pF h4) ?_
            refine st V.move ?_
            refine on rfl rfl ?_
            refine st V.move ?_
            refine on rfl rfl ?_
            refine st V.eql ?_
            refine st (V.pF rfl) ?_
            refine st V.assign ?_
            refine sn ?_
            refine AW.ret ?_
            repeat with_reducible first | refine thn_ret ?_ | refine inb_ret ?_
            refine fin (Res.i1 rfl) ?_
            exact ⟨_, (by repeat first | exact List.Sublist.refl _ | apply List.Sublist.cons), by unfold ltP; congr 1; first | (symm; exact decide_eq_true (by omega)) | (symm; exact decide_eq_false (by omega)) | (rw [decide_eq_decide]; omega), rfl⟩
        ·
          have k4 := bp h4
          refine off rfl h4 ?_
          refine off rfl h4 ?_
          refine offU rfl ?_
          refine offU rfl ?_
          refine off rfl h4 ?_
          refine st (V.pT h4) ?_
          refine st V.move ?_
          refine off rfl rfl ?_
          refine off rfl rfl ?_
          refine st (V.pT rfl) ?_
          refine st V.assign ?_
          refine sn ?_
          refine AW.ret ?_
          repeat with_reducible first | refine thn_ret ?_ | refine inb_ret ?_
          refine fin (Res.i1 rfl) ?_
          exact ⟨_, (by repeat first | exact List.Sublist.refl _ | apply List.Sublist.cons), by unfold ltP; congr 1; first | (symm; exact decide_eq_true (by omega)) | (symm; exact decide_eq_false (by omega)) | (rw [decide_eq_decide]; omega), rfl⟩
      ·
        have k3 := bp h3
        refine off rfl h3 ?_
        refine on rfl h2 ?_
        refine st (V.pF h3) ?_
        refine st (V.pF h2) ?_
        refine st V.move ?_
        refine on rfl rfl ?_
        refine st V.move ?_
        refine on rfl rfl ?_
        refine st V.geq ?_
        refine on rfl rfl ?_
        refine st V.move ?_
        refine onoff false rfl rfl (fun h7 => ?_) (fun h7 => ?_)
        ·
          have k7 := bp h7
          refine st V.move ?_
          refine on rfl h7 ?_
          refine st V.leq ?_
          refine on rfl rfl ?_
          refine st (V.pT h7) ?_
          refine st (V.pF rfl) ?_
          refine st V.move ?_
          refine onoff true rfl rfl (fun h8 => ?_) (fun h8 => ?_)
          ·
            have k8 := bp h8
            refine st V.move ?_
            refine on rfl h8 ?_
            refine st V.eql ?_
            refine st (V.pF h8) ?_
            refine st V.assign ?_
            refine sn ?_
            refine AW.ret ?_
            repeat with_reducible first | refine thn_ret ?_ | refine inb_ret ?_
            refine fin (Res.i1 rfl) ?_
            exact ⟨_, (by repeat first | exact List.Sublist.refl _ | apply List.Sublist.cons), by unfold ltP; congr 1; first | (symm; exact decide_eq_true (by omega)) | (symm; exact decide_eq_false (by omega)) | (rw [decide_eq_decide]; omega), rfl⟩
          ·
            have k8 := bp h8
            refine off rfl h8 ?_
            refine st (V.pT h8) ?_
            refine st V.assign ?_
            refine sn ?_
            refine AW.ret ?_
            repeat with_reducible first | refine thn_ret ?_ | refine inb_ret ?_
            refine fin (Res.i1 rfl) ?_
            exact ⟨_, (by repeat first | exact List.Sublist.refl _ | apply List.Sublist.cons), by unfold ltP; congr 1; first | (symm; exact decide_eq_true (by omega)) | (symm; exact decide_eq_false (by omega)) | (rw [decide_eq_decide]; omega), rfl⟩
        ·
          have k7 := bp h7
          refine off rfl h7 ?_
          refine on rfl rfl ?_
          refine st (V.pF h7) ?_
          refine st (V.pF rfl) ?_
          refine st V.move ?_
          refine on rfl rfl ?_
          refine st V.move ?_
          refine on rfl rfl ?_
          refine st V.eql ?_
          refine st (V.pF rfl) ?_
          refine st V.assign ?_
          refine sn ?_
          refine AW.ret ?_
          repeat with_reducible first | refine thn_ret ?_ | refine inb_ret ?_
          refine fin (Res.i1 rfl) ?_
          exact ⟨_, (by repeat first | exact List.Sublist.refl _ | apply List.Sublist.cons), by unfold ltP; congr 1; first | (symm; exact decide_eq_true (by omega)) | (symm; exact decide_eq_false (by omega)) | (rw [decide_eq_decide]; omega), rfl⟩
    ·
      have k2 := bp h2
      refine off rfl h2 ?_
      refine off rfl h2 ?_
      refine offU rfl ?_
      refine offU rfl ?_
      refine off rfl h2 ?_
      refine st (V.pT h2) ?_
      refine st V.move ?_
      refine off rfl rfl ?_
      refine off rfl rfl ?_
      refine off rfl rfl ?_
      refine offU rfl ?_
      refine offU rfl ?_
      refine off rfl rfl ?_
      refine st (V.pT rfl) ?_
      refine st V.move ?_
      refine off rfl rfl ?_
      refine off rfl rfl ?_
      refine st (V.pT rfl) ?_
      refine st V.assign ?_
      refine sn ?_
      refine AW.ret ?_
      repeat with_reducible first | refine thn_ret ?_ | refine inb_ret ?_
      refine fin (Res.i1 rfl) ?_
      exact ⟨_, (by repeat first | exact List.Sublist.refl _ | apply List.Sublist.cons), by unfold ltP; congr 1; first | (symm; exact decide_eq_true (by omega)) | (symm; exact decide_eq_false (by omega)) | (rw [decide_eq_decide]; omega), rfl⟩
  ·
    have k1 := bp h1
    refine off rfl h1 ?_
    refine st (V.pF h1) ?_
    refine st V.move ?_
    refine on rfl rfl ?_
    refine st V.move ?_
    refine on rfl rfl ?_
    refine st V.geq ?_
    refine on rfl rfl ?_
    refine st V.move ?_
    refine onoff false rfl rfl (fun h9 => ?_) (fun h9 => ?_)
    ·
      have k9 := bp h9
      refine st V.move ?_
      refine on rfl h9 ?_
      refine st V.leq ?_
      refine on rfl rfl ?_
      refine st (V.pT h9) ?_
      refine st (V.pF rfl) ?_
      refine st V.move ?_
      refine onoff true rfl rfl (fun h10 => ?_) (fun h10 => ?_)
      ·
        have k10 := bp h10
        refine st V.move ?_
        refine on rfl h10 ?_
        refine st V.geq ?_
        refine on rfl h10 ?_
        refine st V.move ?_
        refine onoff false rfl rfl (fun h11 => ?_) (fun h11 => ?_)
        ·
          have k11 := bp h11
          refine st V.move ?_
          refine on rfl h11 ?_
          refine st V.leq ?_
          refine on rfl h10 ?_
          refine st (V.pT h11) ?_
          refine st (V.pF h10) ?_
          refine st V.move ?_
          refine onoff true rfl rfl (fun h12 => ?_) (fun h12 => ?_)
          ·
            have k12 := bp h12
            refine st V.move ?_
            refine on rfl h12 ?_
            refine st V.eql ?_
            refine st (V.pF h12) ?_
            refine st V.assign ?_
            refine sn ?_
            refine AW.ret ?_
            repeat with_reducible first | refine thn_ret ?_ | refine inb_ret ?_
            refine fin (Res.i1 rfl) ?_
            exact ⟨_, (by repeat first | exact List.Sublist.refl _ | apply List.Sublist.cons), by unfold ltP; congr 1; first | (symm; exact decide_eq_true (by omega)) | (symm; exact decide_eq_false (by omega)) | (rw [decide_eq_decide]; omega), rfl⟩
          ·
            have k12 := bp h12
            refine off rfl h12 ?_
            refine st (V.pT h12) ?_
            refine st V.assign ?_
            refine sn ?_
            refine AW.ret ?_
            repeat with_reducible first | refine thn_ret ?_ | refine inb_ret ?_
            refine fin (Res.i1 rfl) ?_
            exact ⟨_, (by repeat first | exact List.Sublist.refl _ | apply List.Sublist.cons), by unfold ltP; congr 1; first | (symm; exact decide_eq_true (by omega)) | (symm; exact decide_eq_false (by omega)) | (rw [decide_eq_decide]; omega), rfl⟩
        ·
          have k11 := bp h11
          refine off rfl h11 ?_
          refine on rfl h10 ?_
          refine st (V.pF h11) ?_
          refine st (V.pF h10) ?_
          refine st V.move ?_
          refine on rfl rfl ?_
          refine st V.move ?_
          refine on rfl rfl ?_
          refine st V.eql ?_
          refine st (V.pF rfl) ?_
          refine st V.assign ?_
          refine sn ?_
          refine AW.ret ?_
          repeat with_reducible first | refine thn_ret ?_ | refine inb_ret ?_
          refine fin (Res.i1 rfl) ?_
          exact ⟨_, (by repeat first | exact List.Sublist.refl _ | apply List.Sublist.cons), by unfold ltP; congr 1; first | (symm; exact decide_eq_true (by omega)) | (symm; exact decide_eq_false (by omega)) | (rw [decide_eq_decide]; omega), rfl⟩
      ·
        have k10 := bp h10
        refine off rfl h10 ?_
        refine off rfl h10 ?_
        refine offU rfl ?_
        refine offU rfl ?_
        refine off rfl h10 ?_
        refine st (V.pT h10) ?_
        refine st V.move ?_
        refine off rfl rfl ?_
        refine off rfl rfl ?_
        refine st (V.pT rfl) ?_
        refine st V.assign ?_
        refine sn ?_
        refine AW.ret ?_
        repeat with_reducible first | refine thn_ret ?_ | refine inb_ret ?_
        refine fin (Res.i1 rfl) ?_
        exact ⟨_, (by repeat first | exact List.Sublist.refl _ | apply List.Sublist.cons), by unfold ltP; congr 1; first | (symm; exact decide_eq_true (by omega)) | (symm; exact decide_eq_false (by omega)) | (rw [decide_eq_decide]; omega), rfl⟩
    ·
      have k9 := bp h9
      refine off rfl h9 ?_
      refine on rfl rfl ?_
      refine st (V.pF h9) ?_
      refine st (V.pF rfl) ?_
      refine st V.move ?_
      refine on rfl rfl ?_
      refine st V.move ?_
      refine on rfl rfl ?_
      refine st V.geq ?_
      refine on rfl rfl ?_
      refine st V.move ?_
      refine onoff false rfl rfl (fun h13 => ?_) (fun h13 => ?_)
      ·
        have k13 := bp h13
        refine st V.move ?_
        refine on rfl h13 ?_
        refine st V.leq ?_
        refine on rfl rfl ?_
        refine st (V.pT h13) ?_
        refine st (V.pF rfl) ?_
        refine st V.move ?_
        refine onoff true rfl rfl (fun h14 => ?_) (fun h14 => ?_)
        ·
          have k14 := bp h14
          refine st V.move ?_
          refine on rfl h14 ?_
          refine st V.eql ?_
          refine st (V.pF h14) ?_
          refine st V.assign ?_
          refine sn ?_
          refine AW.ret ?_
          repeat with_reducible first | refine thn_ret ?_ | refine inb_ret ?_
          refine fin (Res.i1 rfl) ?_
          exact ⟨_, (by repeat first | exact List.Sublist.refl _ | apply List.Sublist.cons), by unfold ltP; congr 1; first | (symm; exact decide_eq_true (by omega)) | (symm; exact decide_eq_false (by omega)) | (rw [decide_eq_decide]; omega), rfl⟩
        ·
          have k14 := bp h14
          refine off rfl h14 ?_
          refine st (V.pT h14) ?_
          refine st V.assign ?_
          refine sn ?_
          refine AW.ret ?_
          repeat with_reducible first | refine thn_ret ?_ | refine inb_ret ?_
          refine fin (Res.i1 rfl) ?_
          exact ⟨_, (by repeat first | exact List.Sublist.refl _ | apply List.Sublist.cons), by unfold ltP; congr 1; first | (symm; exact decide_eq_true (by omega)) | (symm; exact decide_eq_false (by omega)) | (rw [decide_eq_decide]; omega), rfl⟩
      ·
        have k13 := bp h13
        refine off rfl h13 ?_
        refine on rfl rfl ?_
        refine st (V.pF h13) ?_
        refine st (V.pF rfl) ?_
        refine st V.move ?_
        refine on rfl rfl ?_
        refine st V.move ?_
        refine on rfl rfl ?_
        refine st V.eql ?_
        refine st (V.pF rfl) ?_
        refine st V.assign ?_
        refine sn ?_
        refine AW.ret ?_
        repeat with_reducible first | refine thn_ret ?_ | refine inb_ret ?_
        refine fin (Res.i1 rfl) ?_
        exact ⟨_, (by repeat first | exact List.Sublist.refl _ | apply List.Sublist.cons), by unfold ltP; congr 1; first | (symm; exact decide_eq_true (by omega)) | (symm; exact decide_eq_false (by omega)) | (rw [decide_eq_decide]; omega), rfl⟩
set_option maxHeartbeats 1600000 in
set_option synthInstance.maxHeartbeats 400000 in
set_option synthInstance.maxSize 100000 in
set_option maxRecDepth 100000 in
theorem r_spaces_c (M : Mem) (H : Heap) (b : Nat) (s : ByteArray) (hs : s.size ≤ 1000000) (bad : Bool) (a : Nat) (ha : a ≤ s.size) :
    AC Tryz.prog 52 [.pointer (some ⟨b, 0, none⟩)] M (.blk b (.cells #[.string s, .int .i64 (a : Nat), .bool bad] 106 (0, 0)) :: H) fun r _ H' => r = .tuple #[] ∧ H' = .blk b (.cells #[.string s, .int .i64 (skO spP s a : Nat), .bool bad] 106 (0, 0)) :: H := by
  refine AC.of (n := 30) Tryz.func52 rfl rfl ?_
  dsimp only [List.replicate, List.cons_append, List.nil_append]
  refine AW.block ?_
  refine AW.loopL [] (2 :: 3 :: 4 :: 5 :: 6 :: 7 :: 8 :: 9 :: 10 :: 11 :: 12 :: 13 :: 14 :: 15 :: 16 :: 17 :: 18 :: 19 :: 20 :: 21 :: 22 :: 23 :: 24 :: 25 :: 26 :: 27 :: 28 :: 29 :: 30 :: []) (fun m vs M' H' => ∃ a1 : Nat, vs = [] ∧ H' = .blk b (.cells #[.string s, .int .i64 (a1 : Nat), .bool bad] 106 (0, 0)) :: H ∧ a1 + m = s.size ∧ skO spP s a = skO spP s a1) (s.size - a) (⟨a, rfl, rfl, by omega, rfl⟩) ?_
  intro m Ml Hl iL  hI u2 u3 u4 u5 u6 u7 u8 u9 u10 u11 u12 u13 u14 u15 u16 u17 u18 u19 u20 u21 u22 u23 u24 u25 u26 u27 u28 u29 u30
  obtain ⟨a1, hv, hH, hm, hw⟩ := hI
  subst hH
  refine sa ?_
  refine AW.seq ?_
  refine AW.seq ?_
  refine AW.regionD mx false [0, 1, 2, 3, 4, 5, 6, 7, 8, 9, 10, 11, 12, 13, 14, 15, 16, 17, 18, 19, 20, 21] [[], [0], [0, 1], [0, 1, 2], [], [4], [4, 5], [4, 5, 6], [4, 5, 6, 7], [0, 1, 2, 3, 4, 5, 6, 7, 8], [0, 1, 2, 3, 4, 5, 6, 7, 8, 9], [0, 1, 2, 3, 4, 5, 6, 7, 8, 9, 10], [0, 1, 2, 3, 4, 5, 6, 7, 8, 9, 10, 11], [0, 1, 2, 3, 4, 5, 6, 7, 8, 9, 10, 11, 12], [0, 1, 2, 3, 4, 5, 6, 7, 8, 9, 10, 11, 12, 13], [0, 1, 2, 3, 4, 5, 6, 7, 8, 9, 10], [0, 1, 2, 3, 4, 5, 6, 7, 8, 9, 10, 15], [0, 1, 2, 3, 4, 5, 6, 7, 8, 9, 10, 15, 16], [0, 1, 2, 3, 4, 5, 6, 7, 8, 9, 10, 15, 16, 17], [0, 1, 2, 3, 4, 5, 6, 7, 8, 9, 10, 11, 12, 13, 14, 15, 16, 17, 18], [0, 1, 2, 3, 4, 5, 6, 7, 8, 9, 10, 11, 12, 13, 14, 15, 16, 17, 18, 19], [0, 1, 2, 3, 4, 5, 6, 7, 8, 9, 10, 11, 12, 13, 14, 15, 16, 17, 18, 19, 20]] (by kernel_rfl) ?_
  refine D.p rfl rfl V.move ?_
  refine D.p rfl rfl (by first | exact V.nc | exact V.ncF) ?_
  refine D.p rfl rfl V.faz ?_
  first | refine D.p rfl rfl V.ld ?_ | refine D.q rfl rfl V.lo ?_
  refine D.p rfl rfl V.move ?_
  refine D.p rfl rfl (by first | exact V.nc | exact V.ncF) ?_
  refine D.p rfl rfl V.fa0 ?_
  first | refine D.p rfl rfl V.ld ?_ | refine D.q rfl rfl V.lo ?_
  refine D.p rfl rfl V.lenS ?_
  refine D.p rfl rfl V.lss ?_
  refine D.p rfl rfl V.move ?_
  refine D.onoff true false rfl 12 (fun h1 => ?_) (fun h1 => ?_)
  ·
    have k1 := bp h1
    refine D.pOn rfl rfl h1 rfl V.move ?_
    refine D.pOn rfl rfl h1 rfl (by first | exact V.nc | exact V.ncF) ?_
    refine D.pOn rfl rfl h1 rfl V.fa0 ?_
    first | refine D.pOn rfl rfl h1 rfl V.ld ?_ | refine D.qOn rfl rfl h1 rfl V.lo ?_
    refine D.pOn rfl rfl h1 rfl V.move ?_
    refine D.pOn rfl rfl h1 rfl (by first | exact V.nc | exact V.ncF) ?_
    refine D.pOn rfl rfl h1 rfl V.faz ?_
    first | refine D.pOn rfl rfl h1 rfl V.ld ?_ | refine D.qOn rfl rfl h1 rfl V.lo ?_
    refine D.pOn rfl rfl h1 rfl (V.idx (by omega) (by omega)) ?_
    refine D.pOn rfl rfl h1 rfl V.eql ?_
    refine D.p rfl rfl (V.pT h1) ?_
    refine D.nl ?_
    refine cond (fun h2 => ?_) (fun h2 => ?_)
    ·
      have k2 := bp h2
      refine AW.skip ?_
      refine AW.block ?_
      refine AW.region ?_
      refine st V.move ?_
      refine st (by first | exact V.nc | exact V.ncF) ?_
      refine st V.faz ?_
      first | refine st V.ld ?_ | refine sq V.lo ?_
      refine st (V.add64 (by omega)) ?_
      refine st (by first | exact V.nc | exact V.ncF) ?_
      refine st V.faz ?_
      refine se (S.store ?_)
      refine sn ?_
      repeat with_reducible refine inb_normal ?_
      refine thn_normal ?_
      refine rnd (m - 1) _ (by omega) (List.Sublist.refl _) ⟨a1 + 1, rfl, by simp, by omega, ?_⟩
      rw [hw, skO_eq, if_pos ⟨by omega, by unfold spP; exact decide_eq_true (by omega)⟩]
    ·
      have k2 := bp h2
      refine AW.exit ?_
      repeat with_reducible refine thn_exit ?_
      refine inb_exit ?_
      repeat with_reducible refine inb_normal ?_
      refine fin0 (Res.zero rfl) ?_
      have he : skO spP s a = a1 := by rw [hw, skO_eq, if_neg (fun hh => by have := of_decide_eq_true hh.2; omega)]
      exact ⟨_, (by repeat first | exact List.Sublist.refl _ | apply List.Sublist.cons), rfl, by rw [he]⟩
  ·
    have k1 := bp h1
    refine D.off rfl rfl (by rw [h1]; decide) ?_
    refine D.off rfl rfl (by rw [h1]; decide) ?_
    refine D.off rfl rfl (by rw [h1]; decide) ?_
    refine D.off rfl rfl (by rw [h1]; decide) ?_
    refine D.off rfl rfl (by rw [h1]; decide) ?_
    refine D.off rfl rfl (by rw [h1]; decide) ?_
    refine D.off rfl rfl (by rw [h1]; decide) ?_
    refine D.off rfl rfl (by rw [h1]; decide) ?_
    refine D.off rfl rfl (by rw [h1]; decide) ?_
    refine D.off rfl rfl (by rw [h1]; decide) ?_
    refine D.p rfl rfl (V.pF h1) ?_
    refine D.nl ?_
    refine cond (fun h => by cases h) (fun _ => ?_)
    refine AW.exit ?_
    repeat with_reducible refine thn_exit ?_
    refine inb_exit ?_
    repeat with_reducible refine inb_normal ?_
    refine fin0 (Res.zero rfl) ?_
    have he : skO spP s a = a1 := by rw [hw, skO_eq, if_neg (fun hh => by have := of_decide_eq_true hh.2; omega)]
    exact ⟨_, (by repeat first | exact List.Sublist.refl _ | apply List.Sublist.cons), rfl, by rw [he]⟩
set_option maxHeartbeats 1600000 in
set_option synthInstance.maxHeartbeats 400000 in
set_option synthInstance.maxSize 100000 in
set_option maxRecDepth 100000 in
theorem r_integer_c (M : Mem) (H : Heap) (w : ByteArray) (hw : w.size ≤ 1000000) :
    AC Tryz.prog 105 [.string w] M H fun r _ H' => ∃ n ok, r = .tuple #[.int .i64 n, .bool ok] ∧ ok = (intF w).isSome ∧ (∀ n', intF w = some n' → n = n') ∧ H' = H := by
  refine AC.of (n := 61) Tryz.func105 rfl rfl ?_
  dsimp only [List.replicate, List.cons_append, List.nil_append]
  refine AW.seq ?_
  refine AW.region ?_
  refine st V.assign ?_
  refine st V.assign ?_
  refine sn ?_
  refine AW.cutL [4] (8 :: 9 :: 10 :: 11 :: 12 :: 13 :: 14 :: []) (fun vs M' H' => ∃ neg : Bool, vs = [.bool neg] ∧ H' = H ∧ (neg = true ↔ (0 < w.size ∧ byt w 0 = 45))) ?_ ?_
  ·
    refine AW.region ?_
    refine st V.move ?_
    refine st V.nes ?_
    refine st V.move ?_
    refine onoff false rfl rfl (fun h1 => ?_) (fun h1 => ?_)
    ·
      have k1 := bp h1
      have z0 := size_pos k1
      refine st V.move ?_
      refine on rfl h1 ?_
      refine st (V.idx (by omega) (by omega)) ?_
      refine on rfl h1 ?_
      refine st V.eql ?_
      refine st (V.pT h1) ?_
      refine st V.assign ?_
      refine sn ?_
      repeat with_reducible refine inb_normal ?_
      refine thn_normal ?_
      exact met _ (List.Sublist.refl _) ⟨_, rfl, rfl, by rw [decide_eq_true_eq]; exact ⟨fun h => ⟨z0, h⟩, fun h => h.2⟩⟩
    ·
      have k1 := bp h1
      refine off rfl h1 ?_
      refine off rfl h1 ?_
      refine st (V.pF h1) ?_
      refine st V.assign ?_
      refine sn ?_
      repeat with_reducible refine inb_normal ?_
      refine thn_normal ?_
      have hwe : w = ⟨#[]⟩ := by simpa using k1
      exact met _ (List.Sublist.refl _) ⟨_, rfl, rfl, by subst hwe; exact ⟨fun h => (by cases h), fun h => absurd h.1 (by decide)⟩⟩
  ·
    intro Mc2 Hc2 iC2 u4 hJ u8 u9 u10 u11 u12 u13 u14
    obtain ⟨neg, hv', hH, hneg⟩ := hJ
    obtain rfl := hH.symm
    cases hv'
    refine sa ?_
    refine AW.cutL [0] (15 :: 16 :: 17 :: []) (fun vs M' H' => ∃ s : ByteArray, vs = [.string s] ∧ H' = H ∧ Body w s neg ∧ s.size ≤ w.size) ?_ ?_
    ·
      refine AW.seq ?_
      refine AW.region ?_
      refine st V.move ?_
      refine sn ?_
      refine cond (fun h2 => ?_) (fun h2 => ?_)
      ·
        have k2 := bp h2
        obtain ⟨z0, z1⟩ := hneg.1 (by assumption)
        refine AW.region ?_
        refine st V.move ?_
        refine st (V.subL (by omega) (by omega)) ?_
        refine st V.assign ?_
        refine sn ?_
        repeat with_reducible refine inb_normal ?_
        refine thn_normal ?_
        exact met _ (List.Sublist.refl _) ⟨_, rfl, rfl, .inl ⟨by assumption, ext1 z0 z1⟩, by rw [ByteArray.size_extract]; omega⟩
      ·
        have k2 := bp h2
        refine AW.skip ?_
        repeat with_reducible refine inb_normal ?_
        refine thn_normal ?_
        exact met _ (List.Sublist.refl _) ⟨_, rfl, rfl, .inr ⟨by simpa using k2, rfl, fun h => by have := hneg.2 h; simp_all⟩, Nat.le_refl _⟩
    ·
      intro Mc4 Hc4 iC4 u0 hJ u15 u16 u17
      obtain ⟨s, hv', hH, hbd, hsw⟩ := hJ
      obtain rfl := hH.symm
      cases hv'
      have hsl := size_list s
      refine sa ?_
      refine AW.seq ?_
      refine AW.region ?_
      refine st V.assign ?_
      refine sn ?_
      refine AW.seq ?_
      refine AW.seq ?_
      refine AW.region ?_
      refine st V.assign ?_
      refine sn ?_
      refine AW.block ?_
      refine AW.loopL [5, 6] (2 :: 3 :: 7 :: 18 :: 19 :: 20 :: 21 :: 22 :: 23 :: 24 :: 25 :: 26 :: 27 :: 28 :: 29 :: 30 :: 31 :: 32 :: 33 :: 34 :: 35 :: 36 :: 37 :: 38 :: 39 :: 40 :: 41 :: 42 :: 43 :: 44 :: 45 :: 46 :: 47 :: []) (fun m vs M' H' => ∃ i : Nat, vs = [.int .i64 (-(dvA 0 (s.data.toList.take i) : Int)), .int .i64 (i : Int)] ∧ H' = H ∧ i + m = s.size ∧ dvA 0 (s.data.toList.take i) ≤ 9223372036854775808 ∧ Dgs (s.data.toList.take i)) (s.size) (⟨0, rfl, rfl, by omega, by simp [dvA], fun c hc => by simp at hc⟩) ?_
      intro m Ml Hl iL u5 u6 hI u2 u3 u7 u18 u19 u20 u21 u22 u23 u24 u25 u26 u27 u28 u29 u30 u31 u32 u33 u34 u35 u36 u37 u38 u39 u40 u41 u42 u43 u44 u45 u46 u47
      obtain ⟨i, hv', hH, hi, hle, hdg⟩ := hI
      obtain rfl := hH.symm
      cases hv'
      refine sa ?_
      refine AW.seq ?_
      refine AW.seq ?_
      refine AW.region ?_
      refine st V.move ?_
      refine st V.move ?_
      refine st V.lenS ?_
      refine st V.lss ?_
      refine sn ?_
      refine cond (fun h3 => ?_) (fun h3 => ?_)
      ·
        have k3 := bp h3
        refine AW.skip ?_
        refine AW.seq ?_
        refine AW.block ?_
        refine AW.seq ?_
        refine AW.seq ?_
        have z6 : i < s.size := by omega
        have z7 : i < s.data.toList.length := by omega
        have hbi := byt_list s i z7
        have hdt := dvA_take s.data.toList i z7
        refine AW.region ?_
        refine st V.move ?_
        refine st V.move ?_
        refine st (V.idx (by omega) (by omega)) ?_
        refine st V.lss ?_
        refine st V.move ?_
        refine onoff true rfl rfl (fun h4 => ?_) (fun h4 => ?_)
        ·
          have k4 := bp h4
          refine st V.move ?_
          refine on rfl h4 ?_
          refine st V.move ?_
          refine on rfl h4 ?_
          refine st (V.idx (by omega) (by omega)) ?_
          refine on rfl h4 ?_
          refine st V.gtr ?_
          refine st (V.pF h4) ?_
          refine sn ?_
          refine cond (fun h5 => ?_) (fun h5 => ?_)
          ·
            have k5 := bp h5
            refine AW.seq ?_
            refine AW.region ?_
            refine st V.assign ?_
            refine st V.assign ?_
            refine sn ?_
            refine AW.ret ?_
            repeat with_reducible first | refine thn_ret ?_ | refine inb_ret ?_
            refine fin (Res.i2 rfl) ?_
            have e := body_bad hbd i z6 (.inr k5)
            exact ⟨_, (by repeat first | exact List.Sublist.refl _ | apply List.Sublist.cons), _, _, rfl, by rw [e]; rfl, (fun n' h => by rw [e] at h; cases h), rfl⟩
          ·
            have k5 := bp h5
            refine AW.skip ?_
            refine AW.seq ?_
            refine AW.region ?_
            refine st V.move ?_
            refine st V.move ?_
            refine st (V.idx (by omega) (by omega)) ?_
            refine st V.sub ?_
            rw [show IntKind.u8.wrap (byt s i - 48) = byt s i - 48 from by simp only [IntKind.wrap, IntKind.bits, IntKind.signed]; simp; omega]
            refine st (V.conv64 (by omega)) ?_
            refine st V.assign ?_
            refine sn ?_
            refine AW.seq ?_
            refine AW.seq ?_
            have hq := tdiv_neg10 (n := -9223372036854775808 + (byt s i - 48)) (by omega)
            refine AW.region ?_
            refine st V.move ?_
            refine st V.move ?_
            refine st (V.add64 (by omega)) ?_
            refine st (V.quo (by decide)) ?_
            rw [wrap64_in (by omega)]
            refine st V.lss ?_
            refine sn ?_
            refine cond (fun h6 => ?_) (fun h6 => ?_)
            ·
              have k6 := bp h6
              refine AW.seq ?_
              refine AW.region ?_
              refine st V.assign ?_
              refine st V.assign ?_
              refine sn ?_
              refine AW.ret ?_
              repeat with_reducible first | refine thn_ret ?_ | refine inb_ret ?_
              refine fin (Res.i2 rfl) ?_
              have e := body_over hbd (i + 1) (by omega)
              exact ⟨_, (by repeat first | exact List.Sublist.refl _ | apply List.Sublist.cons), _, _, rfl, by rw [e]; rfl, (fun n' h => by rw [e] at h; cases h), rfl⟩
            ·
              have k6 := bp h6
              refine AW.skip ?_
              refine AW.region ?_
              refine st V.move ?_
              refine st V.mul ?_
              rw [wrap64_in (by omega)]
              refine st V.move ?_
              refine st V.sub ?_
              rw [wrap64_in (by omega)]
              refine st V.assign ?_
              refine sn ?_
              refine AW.region ?_
              refine st V.move ?_
              refine st (V.add64 (by omega)) ?_
              refine st V.assign ?_
              refine sn ?_
              repeat with_reducible refine inb_normal ?_
              refine thn_normal ?_
              refine rnd (m - 1) _ (by omega) (List.Sublist.refl _) ⟨i + 1, ?_, rfl, by omega, by omega, dgs_take z7 hdg (by omega)⟩
              rw [show (10 : Int) * -(dvA 0 (s.data.toList.take i) : Int) - (byt s i - 48) = -(dvA 0 (s.data.toList.take (i + 1)) : Int) from by omega]; simp
        ·
          have k4 := bp h4
          refine off rfl h4 ?_
          refine off rfl h4 ?_
          refine off rfl h4 ?_
          refine st (V.pT h4) ?_
          refine sn ?_
          refine cond (fun _ => ?_) (fun h => by cases h)
          refine AW.seq ?_
          refine AW.region ?_
          refine st V.assign ?_
          refine st V.assign ?_
          refine sn ?_
          refine AW.ret ?_
          repeat with_reducible first | refine thn_ret ?_ | refine inb_ret ?_
          refine fin (Res.i2 rfl) ?_
          have e := body_bad hbd i z6 (.inl (by omega))
          exact ⟨_, (by repeat first | exact List.Sublist.refl _ | apply List.Sublist.cons), _, _, rfl, by rw [e]; rfl, (fun n' h => by rw [e] at h; cases h), rfl⟩
      ·
        have k3 := bp h3
        refine AW.exit ?_
        repeat with_reducible refine thn_exit ?_
        refine inb_exit ?_
        refine AW.seq ?_
        refine AW.seq ?_
        have hta : s.data.toList.take i = s.data.toList := List.take_of_length_le (by omega)
        rw [hta] at hle hdg
        rw [hta]
        refine AW.region ?_
        refine st V.move ?_
        refine st V.eqs ?_
        refine st V.move ?_
        refine onoff true rfl rfl (fun h8 => ?_) (fun h8 => ?_)
        ·
          have k8 := bp h8
          refine st V.move ?_
          refine on rfl h8 ?_
          refine st V.not ?_
          refine on rfl h8 ?_
          refine st V.move ?_
          refine onoff false rfl rfl (fun h9 => ?_) (fun h9 => ?_)
          ·
            have k9 := bp h9
            refine st V.move ?_
            refine on rfl h9 ?_
            refine st V.eql ?_
            refine on rfl h8 ?_
            refine st (V.pT h9) ?_
            refine st (V.pF h8) ?_
            refine sn ?_
            refine cond (fun h10 => ?_) (fun h10 => ?_)
            ·
              have k10 := bp h10
              refine AW.seq ?_
              refine AW.region ?_
              refine st V.assign ?_
              refine st V.assign ?_
              refine sn ?_
              refine AW.ret ?_
              repeat with_reducible first | refine thn_ret ?_ | refine inb_ret ?_
              refine fin (Res.i2 rfl) ?_
              have hn : neg = false := by simpa using k9
              rw [hn] at hbd
              have e : intF w = none := by rw [body_pos hbd (by simpa using k8) hdg, if_neg (by omega)]
              exact ⟨_, (by repeat first | exact List.Sublist.refl _ | apply List.Sublist.cons), _, _, rfl, by rw [e]; rfl, (fun n' h => by rw [e] at h; cases h), rfl⟩
            ·
              have k10 := bp h10
              refine AW.skip ?_
              refine AW.seq ?_
              refine AW.seq ?_
              refine AW.region ?_
              refine st V.move ?_
              refine sn ?_
              refine cond (fun h11 => ?_) (fun h11 => ?_)
              ·
                have k11 := bp h11
                refine AW.seq ?_
                refine AW.region ?_
                refine st V.move ?_
                refine st V.assign ?_
                refine st V.assign ?_
                refine sn ?_
                refine AW.ret ?_
                repeat with_reducible first | refine thn_ret ?_ | refine inb_ret ?_
                refine fin (Res.i2 rfl) ?_
                exfalso
                simp_all
              ·
                have k11 := bp h11
                refine AW.skip ?_
                refine AW.seq ?_
                refine AW.region ?_
                refine st V.move ?_
                refine st (V.neg) ?_
                refine st V.assign ?_
                refine st V.assign ?_
                refine sn ?_
                refine AW.ret ?_
                repeat with_reducible first | refine thn_ret ?_ | refine inb_ret ?_
                refine fin (Res.i2 rfl) ?_
                have hn : neg = false := by simpa using k9
                rw [hn] at hbd
                have e : intF w = some (dvA 0 s.data.toList : Int) := by rw [body_pos hbd (by simpa using k8) hdg, if_pos (by omega)]
                exact ⟨_, (by repeat first | exact List.Sublist.refl _ | apply List.Sublist.cons), _, _, rfl, by rw [e]; rfl, (fun n' h => by rw [e] at h; cases h; rw [wrap64_in (by omega)]; omega), rfl⟩
          ·
            have k9 := bp h9
            refine off rfl h9 ?_
            refine on rfl h8 ?_
            refine st (V.pF h9) ?_
            refine st (V.pF h8) ?_
            refine sn ?_
            refine cond (fun h => by cases h) (fun _ => ?_)
            refine AW.skip ?_
            refine AW.seq ?_
            refine AW.seq ?_
            refine AW.region ?_
            refine st V.move ?_
            refine sn ?_
            refine cond (fun h13 => ?_) (fun h13 => ?_)
            ·
              have k13 := bp h13
              refine AW.seq ?_
              refine AW.region ?_
              refine st V.move ?_
              refine st V.assign ?_
              refine st V.assign ?_
              refine sn ?_
              refine AW.ret ?_
              repeat with_reducible first | refine thn_ret ?_ | refine inb_ret ?_
              refine fin (Res.i2 rfl) ?_
              have hn : neg = true := by simpa using k9
              rw [hn] at hbd
              have e := body_neg hbd (by simpa using k8) hdg hle
              exact ⟨_, (by repeat first | exact List.Sublist.refl _ | apply List.Sublist.cons), _, _, rfl, by rw [e]; rfl, (fun n' h => by rw [e] at h; cases h; rfl), rfl⟩
            ·
              have k13 := bp h13
              refine AW.skip ?_
              refine AW.seq ?_
              refine AW.region ?_
              refine st V.move ?_
              refine st (V.neg) ?_
              refine st V.assign ?_
              refine st V.assign ?_
              refine sn ?_
              refine AW.ret ?_
              repeat with_reducible first | refine thn_ret ?_ | refine inb_ret ?_
              refine fin (Res.i2 rfl) ?_
              exfalso
              simp_all
        ·
          have k8 := bp h8
          refine off rfl h8 ?_
          refine off rfl h8 ?_
          refine offU rfl ?_
          refine offU rfl ?_
          refine off rfl h8 ?_
          refine st (V.pT h8) ?_
          refine sn ?_
          refine cond (fun _ => ?_) (fun h => by cases h)
          refine AW.seq ?_
          refine AW.region ?_
          refine st V.assign ?_
          refine st V.assign ?_
          refine sn ?_
          refine AW.ret ?_
          repeat with_reducible first | refine thn_ret ?_ | refine inb_ret ?_
          refine fin (Res.i2 rfl) ?_
          have e := body_empty hbd (by simpa using k8)
          exact ⟨_, (by repeat first | exact List.Sublist.refl _ | apply List.Sublist.cons), _, _, rfl, by rw [e]; rfl, (fun n' h => by rw [e] at h; cases h), rfl⟩
set_option maxHeartbeats 1600000 in
set_option synthInstance.maxHeartbeats 400000 in
set_option synthInstance.maxSize 100000 in
set_option maxRecDepth 100000 in
theorem r_word_c (M : Mem) (H : Heap) (b : Nat) (s : ByteArray) (hs : s.size ≤ 1000000) (a : Nat) (ha : a ≤ s.size) :
    AC Tryz.prog 80 [.pointer (some ⟨b, 0, none⟩)] M (.blk b (.cells #[.string s, .int .i64 (a : Nat), .bool false] 106 (0, 0)) :: H) fun r _ H' => (∃ nm nu, r = .agg #[.string nm, .int .i64 nu, .slice none 0 0] ∧ ∀ t, wordF s a = some t → t = ⟨nm, nu, []⟩) ∧ H' = .blk b (.cells #[.string s, .int .i64 (wE s a : Nat), .bool (wordF s a).isNone] 106 (0, 0)) :: H := by
  have hwe := wE_le s a ha
  refine AC.of (n := 135) Tryz.func80 rfl rfl ?_
  dsimp only [List.replicate, List.cons_append, List.nil_append]
  refine AW.seq ?_
  refine AW.region ?_
  refine se (S.alloc ?_); intro b2
  refine sn ?_
  refine AW.seq ?_
  refine AW.region ?_
  refine st V.move ?_
  refine st (by first | exact V.nc | exact V.ncF) ?_
  refine st V.faz ?_
  first | refine st V.ld ?_ | refine sq V.lo ?_
  refine st V.assign ?_
  refine sn ?_
  refine AW.cutL [] (11 :: 12 :: 13 :: 14 :: 15 :: 16 :: 17 :: 18 :: 19 :: 20 :: 21 :: 22 :: 23 :: 24 :: 25 :: 26 :: 27 :: 28 :: 29 :: 30 :: 31 :: 32 :: 33 :: 34 :: 35 :: 36 :: 37 :: 38 :: 39 :: []) (fun vs M' H' => ∃ a1 : Nat, vs = [] ∧ H' = .blk b2 (.cells #[.string ⟨#[]⟩, .int .i64 0, .slice none 0 0] 109 (0, 0)) :: .blk b (.cells #[.string s, .int .i64 (a1 : Nat), .bool false] 106 (0, 0)) :: H ∧ a ≤ a1 ∧ a1 ≤ s.size ∧ wE s a = skO ltP s a1) ?_ ?_
  ·
    refine AW.seq ?_
    refine AW.regionD mx false [0, 1, 2, 3, 4, 5, 6, 7, 8, 9, 10, 11, 12, 13, 14, 15, 16, 17, 18, 19, 20, 21] [[], [0], [0, 1], [0, 1, 2], [], [4], [4, 5], [4, 5, 6], [4, 5, 6, 7], [0, 1, 2, 3, 4, 5, 6, 7, 8], [0, 1, 2, 3, 4, 5, 6, 7, 8, 9], [0, 1, 2, 3, 4, 5, 6, 7, 8, 9, 10], [0, 1, 2, 3, 4, 5, 6, 7, 8, 9, 10, 11], [0, 1, 2, 3, 4, 5, 6, 7, 8, 9, 10, 11, 12], [0, 1, 2, 3, 4, 5, 6, 7, 8, 9, 10, 11, 12, 13], [0, 1, 2, 3, 4, 5, 6, 7, 8, 9, 10], [0, 1, 2, 3, 4, 5, 6, 7, 8, 9, 10, 15], [0, 1, 2, 3, 4, 5, 6, 7, 8, 9, 10, 15, 16], [0, 1, 2, 3, 4, 5, 6, 7, 8, 9, 10, 15, 16, 17], [0, 1, 2, 3, 4, 5, 6, 7, 8, 9, 10, 11, 12, 13, 14, 15, 16, 17, 18], [0, 1, 2, 3, 4, 5, 6, 7, 8, 9, 10, 11, 12, 13, 14, 15, 16, 17, 18, 19], [0, 1, 2, 3, 4, 5, 6, 7, 8, 9, 10, 11, 12, 13, 14, 15, 16, 17, 18, 19, 20]] (by kernel_rfl) ?_
    refine D.p rfl rfl V.move ?_
    refine D.p rfl rfl (by first | exact V.nc | exact V.ncF) ?_
    refine D.p rfl rfl V.faz ?_
    first | refine D.p rfl rfl V.ld ?_ | refine D.q rfl rfl V.lo ?_
    refine D.p rfl rfl V.move ?_
    refine D.p rfl rfl (by first | exact V.nc | exact V.ncF) ?_
    refine D.p rfl rfl V.fa0 ?_
    first | refine D.p rfl rfl V.ld ?_ | refine D.q rfl rfl V.lo ?_
    refine D.p rfl rfl V.lenS ?_
    refine D.p rfl rfl V.lss ?_
    refine D.p rfl rfl V.move ?_
    refine D.onoff true false rfl 21 (fun h1 => ?_) (fun h1 => ?_)
    ·
      have k1 := bp h1
      refine D.pOn rfl rfl h1 rfl V.move ?_
      refine D.pOn rfl rfl h1 rfl (by first | exact V.nc | exact V.ncF) ?_
      refine D.pOn rfl rfl h1 rfl V.fa0 ?_
      first | refine D.pOn rfl rfl h1 rfl V.ld ?_ | refine D.qOn rfl rfl h1 rfl V.lo ?_
      refine D.pOn rfl rfl h1 rfl V.move ?_
      refine D.pOn rfl rfl h1 rfl (by first | exact V.nc | exact V.ncF) ?_
      refine D.pOn rfl rfl h1 rfl V.faz ?_
      first | refine D.pOn rfl rfl h1 rfl V.ld ?_ | refine D.qOn rfl rfl h1 rfl V.lo ?_
      refine D.pOn rfl rfl h1 rfl (V.idx (by omega) (by omega)) ?_
      refine D.pOn rfl rfl h1 rfl V.eql ?_
      refine D.p rfl rfl (V.pT h1) ?_
      refine D.nl ?_
      refine cond (fun h2 => ?_) (fun h2 => ?_)
      ·
        have k2 := bp h2
        refine AW.region ?_
        refine st V.move ?_
        refine st (by first | exact V.nc | exact V.ncF) ?_
        refine st V.faz ?_
        first | refine st V.ld ?_ | refine sq V.lo ?_
        refine st (V.add64 (by omega)) ?_
        refine st (by first | exact V.nc | exact V.ncF) ?_
        refine st V.faz ?_
        refine se (S.store ?_)
        refine sn ?_
        repeat with_reducible refine inb_normal ?_
        refine thn_normal ?_
        first
          | exact met _ (List.Sublist.refl _) ⟨a + 1, rfl, by simp, by omega, by omega, by rw [wE, if_pos ⟨by omega, by omega⟩]⟩
          | exact met _ (List.Sublist.refl _) ⟨a, rfl, rfl, by omega, by omega, by rw [wE, if_neg (by omega)]⟩
      ·
        have k2 := bp h2
        refine AW.skip ?_
        repeat with_reducible refine inb_normal ?_
        refine thn_normal ?_
        first
          | exact met _ (List.Sublist.refl _) ⟨a + 1, rfl, by simp, by omega, by omega, by rw [wE, if_pos ⟨by omega, by omega⟩]⟩
          | exact met _ (List.Sublist.refl _) ⟨a, rfl, rfl, by omega, by omega, by rw [wE, if_neg (by omega)]⟩
    ·
      have k1 := bp h1
      refine D.off rfl rfl (by rw [h1]; decide) ?_
      refine D.off rfl rfl (by rw [h1]; decide) ?_
      refine D.off rfl rfl (by rw [h1]; decide) ?_
      refine D.off rfl rfl (by rw [h1]; decide) ?_
      refine D.off rfl rfl (by rw [h1]; decide) ?_
      refine D.off rfl rfl (by rw [h1]; decide) ?_
      refine D.off rfl rfl (by rw [h1]; decide) ?_
      refine D.off rfl rfl (by rw [h1]; decide) ?_
      refine D.off rfl rfl (by rw [h1]; decide) ?_
      refine D.off rfl rfl (by rw [h1]; decide) ?_
      refine D.p rfl rfl (V.pF h1) ?_
      refine D.nl ?_
      refine cond (fun h => by cases h) (fun _ => ?_)
      refine AW.skip ?_
      repeat with_reducible refine inb_normal ?_
      refine thn_normal ?_
      first
        | exact met _ (List.Sublist.refl _) ⟨a + 1, rfl, by simp, by omega, by omega, by rw [wE, if_pos ⟨by omega, by omega⟩]⟩
        | exact met _ (List.Sublist.refl _) ⟨a, rfl, rfl, by omega, by omega, by rw [wE, if_neg (by omega)]⟩
  ·
    intro Mc4 Hc4 iC4  hJ u11 u12 u13 u14 u15 u16 u17 u18 u19 u20 u21 u22 u23 u24 u25 u26 u27 u28 u29 u30 u31 u32 u33 u34 u35 u36 u37 u38 u39
    obtain ⟨p0, hv, hH, hp0, hp1, hpw⟩ := hJ
    subst hH
    refine sa ?_
    refine AW.cutL [] (40 :: 41 :: 42 :: 43 :: 44 :: 45 :: 46 :: 47 :: 48 :: 49 :: 50 :: 51 :: 52 :: 53 :: 54 :: 55 :: 56 :: 57 :: 58 :: 59 :: 60 :: 61 :: 62 :: 63 :: 64 :: 65 :: 66 :: 67 :: 68 :: []) (fun vs M' H' => vs = [] ∧ H' = .blk b2 (.cells #[.string ⟨#[]⟩, .int .i64 0, .slice none 0 0] 109 (0, 0)) :: .blk b (.cells #[.string s, .int .i64 (wE s a : Nat), .bool false] 106 (0, 0)) :: H) ?_ ?_
    ·
      refine AW.block ?_
      refine AW.loopL [] (40 :: 41 :: 42 :: 43 :: 44 :: 45 :: 46 :: 47 :: 48 :: 49 :: 50 :: 51 :: 52 :: 53 :: 54 :: 55 :: 56 :: 57 :: 58 :: 59 :: 60 :: 61 :: 62 :: 63 :: 64 :: 65 :: 66 :: 67 :: 68 :: []) (fun m vs M' H' => ∃ a1 : Nat, vs = [] ∧ H' = .blk b2 (.cells #[.string ⟨#[]⟩, .int .i64 0, .slice none 0 0] 109 (0, 0)) :: .blk b (.cells #[.string s, .int .i64 (a1 : Nat), .bool false] 106 (0, 0)) :: H ∧ a ≤ a1 ∧ a1 + m = s.size ∧ wE s a = skO ltP s a1) (s.size - p0) (⟨p0, rfl, rfl, by omega, by omega, hpw⟩) ?_
      intro m Ml Hl iL  hI u40 u41 u42 u43 u44 u45 u46 u47 u48 u49 u50 u51 u52 u53 u54 u55 u56 u57 u58 u59 u60 u61 u62 u63 u64 u65 u66 u67 u68
      obtain ⟨a1, hv, hH, hm0, hm, hw⟩ := hI
      subst hH
      refine sa ?_
      refine AW.seq ?_
      refine AW.seq ?_
      refine AW.regionP mx [0, 1, 2, 3, 4, 5, 6, 7, 8, 9, 10, 11, 12, 13, 14, 15, 16, 17, 18, 19, 20, 21] [[], [0], [0, 1], [0, 1, 2], [], [4], [4, 5], [4, 5, 6], [4, 5, 6, 7], [0, 1, 2, 3, 4, 5, 6, 7, 8], [0, 1, 2, 3, 4, 5, 6, 7, 8, 9], [0, 1, 2, 3, 4, 5, 6, 7, 8, 9, 10], [0, 1, 2, 3, 4, 5, 6, 7, 8, 9, 10, 11], [0, 1, 2, 3, 4, 5, 6, 7, 8, 9, 10, 11, 12], [0, 1, 2, 3, 4, 5, 6, 7, 8, 9, 10, 11, 12, 13], [0, 1, 2, 3, 4, 5, 6, 7, 8, 9, 10], [0, 1, 2, 3, 4, 5, 6, 7, 8, 9, 10, 15], [0, 1, 2, 3, 4, 5, 6, 7, 8, 9, 10, 15, 16], [0, 1, 2, 3, 4, 5, 6, 7, 8, 9, 10, 15, 16, 17], [0, 1, 2, 3, 4, 5, 6, 7, 8, 9, 10, 11, 12, 13, 14, 15, 16, 17, 18], [0, 1, 2, 3, 4, 5, 6, 7, 8, 9, 10, 11, 12, 13, 14, 15, 16, 17, 18, 19], [0, 1, 2, 3, 4, 5, 6, 7, 8, 9, 10, 11, 12, 13, 14, 15, 16, 17, 18, 19, 20]] (by kernel_rfl) ?_
      refine DP.p rfl rfl V.move ?_
      refine DP.p rfl rfl (by first | exact V.nc | exact V.ncF) ?_
      refine DP.p rfl rfl V.faz ?_
      refine DP.lo rfl ?_
      refine DP.p rfl rfl V.move ?_
      refine DP.p rfl rfl (by first | exact V.nc | exact V.ncF) ?_
      refine DP.p rfl rfl V.fa0 ?_
      refine DP.lo rfl ?_
      refine DP.p rfl rfl V.lenS ?_
      refine DP.p rfl rfl V.lss ?_
      refine DP.p rfl rfl V.move ?_
      refine DP.onoff true false rfl 50 (fun h4 => ?_) (fun h4 => ?_)
      ·
        have k4 := bp h4
        refine DP.pOn rfl rfl h4 rfl V.move ?_
        refine DP.pOn rfl rfl h4 rfl (by first | exact V.nc | exact V.ncF) ?_
        refine DP.pOn rfl rfl h4 rfl V.fa0 ?_
        refine DP.loOn rfl rfl h4 ?_
        refine DP.pOn rfl rfl h4 rfl V.move ?_
        refine DP.pOn rfl rfl h4 rfl (by first | exact V.nc | exact V.ncF) ?_
        refine DP.pOn rfl rfl h4 rfl V.faz ?_
        refine DP.loOn rfl rfl h4 ?_
        refine DP.pOn rfl rfl h4 rfl (V.idx (by omega) (by omega)) ?_
        refine DP.eOn rfl rfl h4 rfl (S.call ?_)
        refine (r_letter_c _ _ _).use ?_
        rintro v N G iz ⟨rfl, hG⟩
        obtain rfl := hG.symm
        refine ⟨(by repeat first | exact pk0 | refine pk1 rfl ?_ | refine pk2 ?_ | refine pk3 ?_), ?_⟩
        refine DP.p rfl rfl (V.pT h4) ?_
        refine DP.nl ?_
        refine cond (fun h5 => ?_) (fun h5 => ?_)
        ·
          have k5 := bp h5
          refine AW.skip ?_
          refine AW.block ?_
          refine AW.region ?_
          refine st V.move ?_
          refine st (by first | exact V.nc | exact V.ncF) ?_
          refine st V.faz ?_
          first | refine st V.ld ?_ | refine sq V.lo ?_
          refine st (V.add64 (by omega)) ?_
          refine st (by first | exact V.nc | exact V.ncF) ?_
          refine st V.faz ?_
          refine se (S.store ?_)
          refine sn ?_
          repeat with_reducible refine inb_normal ?_
          refine thn_normal ?_
          refine rnd (m - 1) _ (by omega) (List.Sublist.refl _) ⟨a1 + 1, rfl, by simp, by omega, by omega, ?_⟩
          rw [hw, skO_eq, if_pos ⟨by omega, by assumption⟩]
        ·
          have k5 := bp h5
          refine AW.exit ?_
          repeat with_reducible refine thn_exit ?_
          refine inb_exit ?_
          repeat with_reducible refine inb_normal ?_
          refine thn_normal ?_
          have he : wE s a = a1 := by rw [hw, skO_eq, if_neg (fun hh => by first | omega | (have h9 := hh.2; simp_all))]
          exact met _ (List.Sublist.refl _) ⟨rfl, by rw [he]⟩
      ·
        have k4 := bp h4
        refine DP.off rfl rfl (by rw [h4]; decide) (by repeat first | exact pk0 | refine pk1 rfl ?_ | refine pk2 ?_ | refine pk3 ?_) ?_
        refine DP.off rfl rfl (by rw [h4]; decide) (by repeat first | exact pk0 | refine pk1 rfl ?_ | refine pk2 ?_ | refine pk3 ?_) ?_
        refine DP.off rfl rfl (by rw [h4]; decide) (by repeat first | exact pk0 | refine pk1 rfl ?_ | refine pk2 ?_ | refine pk3 ?_) ?_
        refine DP.off rfl rfl (by rw [h4]; decide) (by repeat first | exact pk0 | refine pk1 rfl ?_ | refine pk2 ?_ | refine pk3 ?_) ?_
        refine DP.off rfl rfl (by rw [h4]; decide) (by repeat first | exact pk0 | refine pk1 rfl ?_ | refine pk2 ?_ | refine pk3 ?_) ?_
        refine DP.off rfl rfl (by rw [h4]; decide) (by repeat first | exact pk0 | refine pk1 rfl ?_ | refine pk2 ?_ | refine pk3 ?_) ?_
        refine DP.off rfl rfl (by rw [h4]; decide) (by repeat first | exact pk0 | refine pk1 rfl ?_ | refine pk2 ?_ | refine pk3 ?_) ?_
        refine DP.off rfl rfl (by rw [h4]; decide) (by repeat first | exact pk0 | refine pk1 rfl ?_ | refine pk2 ?_ | refine pk3 ?_) ?_
        refine DP.off rfl rfl (by rw [h4]; decide) (by repeat first | exact pk0 | refine pk1 rfl ?_ | refine pk2 ?_ | refine pk3 ?_) ?_
        refine DP.off rfl rfl (by rw [h4]; decide) (by repeat first | exact pk0 | refine pk1 rfl ?_ | refine pk2 ?_ | refine pk3 ?_) ?_
        refine DP.p rfl rfl (V.pF h4) ?_
        refine DP.nl ?_
        refine cond (fun h => by cases h) (fun _ => ?_)
        refine AW.exit ?_
        repeat with_reducible refine thn_exit ?_
        refine inb_exit ?_
        repeat with_reducible refine inb_normal ?_
        refine thn_normal ?_
        have he : wE s a = a1 := by rw [hw, skO_eq, if_neg (fun hh => by first | omega | (have h9 := hh.2; simp_all))]
        exact met _ (List.Sublist.refl _) ⟨rfl, by rw [he]⟩
    ·
      intro Mc6 Hc6 iC6  hJ u40 u41 u42 u43 u44 u45 u46 u47 u48 u49 u50 u51 u52 u53 u54 u55 u56 u57 u58 u59 u60 u61 u62 u63 u64 u65 u66 u67 u68
      obtain ⟨hv, hH⟩ := hJ
      subst hH
      refine sa ?_
      refine AW.seq ?_
      obtain ⟨w, hwx⟩ : ∃ w, s.extract a (wE s a) = w := ⟨_, rfl⟩
      have hwz : w.size = wE s a - a := by rw [← hwx, ByteArray.size_extract]; omega
      refine AW.regionD mx false [0, 1, 2, 3, 4, 5, 6, 7, 8, 9, 10] [[], [0], [0, 1], [0, 1, 2], [], [], [5], [5, 6], [5, 6, 7], [0, 1, 2, 3, 4, 5, 6, 7, 8], [0, 1, 2, 3, 4, 5, 6, 7, 8, 9]] (by kernel_rfl) ?_
      refine D.p rfl rfl V.move ?_
      refine D.p rfl rfl (by first | exact V.nc | exact V.ncF) ?_
      refine D.p rfl rfl V.fa0 ?_
      first | refine D.p rfl rfl V.ld ?_ | refine D.q rfl rfl V.lo ?_
      refine D.p rfl rfl V.move ?_
      refine D.p rfl rfl V.move ?_
      refine D.p rfl rfl (by first | exact V.nc | exact V.ncF) ?_
      refine D.p rfl rfl V.faz ?_
      first | refine D.p rfl rfl V.ld ?_ | refine D.q rfl rfl V.lo ?_
      refine D.p rfl rfl (V.sub1 (by omega) (by omega) (by omega)) ?_
      rw [Int.toNat_natCast, Int.toNat_natCast, hwx]
      refine D.p rfl rfl V.assign ?_
      refine D.nl ?_
      refine AW.cutL [] (79 :: 80 :: 81 :: 82 :: 83 :: 84 :: 85 :: 86 :: 87 :: 88 :: 89 :: 90 :: 91 :: 92 :: 93 :: 94 :: 95 :: 96 :: 97 :: 98 :: 99 :: 100 :: 101 :: 102 :: 103 :: []) (fun vs M' H' => ∃ bd : Bool, vs = [] ∧ H' = .blk b2 (.cells #[.string ⟨#[]⟩, .int .i64 0, .slice none 0 0] 109 (0, 0)) :: .blk b (.cells #[.string s, .int .i64 (wE s a : Nat), .bool bd] 106 (0, 0)) :: H ∧ (bd = true ↔ (wE s a < s.size ∧ byt s (wE s a) = 45))) ?_ ?_
      ·
        refine AW.seq ?_
        refine AW.regionD mx false [0, 1, 2, 3, 4, 5, 6, 7, 8, 9, 10, 11, 12, 13, 14, 15, 16, 17, 18, 19, 20, 21] [[], [0], [0, 1], [0, 1, 2], [], [4], [4, 5], [4, 5, 6], [4, 5, 6, 7], [0, 1, 2, 3, 4, 5, 6, 7, 8], [0, 1, 2, 3, 4, 5, 6, 7, 8, 9], [0, 1, 2, 3, 4, 5, 6, 7, 8, 9, 10], [0, 1, 2, 3, 4, 5, 6, 7, 8, 9, 10, 11], [0, 1, 2, 3, 4, 5, 6, 7, 8, 9, 10, 11, 12], [0, 1, 2, 3, 4, 5, 6, 7, 8, 9, 10, 11, 12, 13], [0, 1, 2, 3, 4, 5, 6, 7, 8, 9, 10], [0, 1, 2, 3, 4, 5, 6, 7, 8, 9, 10, 15], [0, 1, 2, 3, 4, 5, 6, 7, 8, 9, 10, 15, 16], [0, 1, 2, 3, 4, 5, 6, 7, 8, 9, 10, 15, 16, 17], [0, 1, 2, 3, 4, 5, 6, 7, 8, 9, 10, 11, 12, 13, 14, 15, 16, 17, 18], [0, 1, 2, 3, 4, 5, 6, 7, 8, 9, 10, 11, 12, 13, 14, 15, 16, 17, 18, 19], [0, 1, 2, 3, 4, 5, 6, 7, 8, 9, 10, 11, 12, 13, 14, 15, 16, 17, 18, 19, 20]] (by kernel_rfl) ?_
        refine D.p rfl rfl V.move ?_
        refine D.p rfl rfl (by first | exact V.nc | exact V.ncF) ?_
        refine D.p rfl rfl V.faz ?_
        first | refine D.p rfl rfl V.ld ?_ | refine D.q rfl rfl V.lo ?_
        refine D.p rfl rfl V.move ?_
        refine D.p rfl rfl (by first | exact V.nc | exact V.ncF) ?_
        refine D.p rfl rfl V.fa0 ?_
        first | refine D.p rfl rfl V.ld ?_ | refine D.q rfl rfl V.lo ?_
        refine D.p rfl rfl V.lenS ?_
        refine D.p rfl rfl V.lss ?_
        refine D.p rfl rfl V.move ?_
        refine D.onoff true false rfl 89 (fun h7 => ?_) (fun h7 => ?_)
        ·
          have k7 := bp h7
          refine D.pOn rfl rfl h7 rfl V.move ?_
          refine D.pOn rfl rfl h7 rfl (by first | exact V.nc | exact V.ncF) ?_
          refine D.pOn rfl rfl h7 rfl V.fa0 ?_
          first | refine D.pOn rfl rfl h7 rfl V.ld ?_ | refine D.qOn rfl rfl h7 rfl V.lo ?_
          refine D.pOn rfl rfl h7 rfl V.move ?_
          refine D.pOn rfl rfl h7 rfl (by first | exact V.nc | exact V.ncF) ?_
          refine D.pOn rfl rfl h7 rfl V.faz ?_
          first | refine D.pOn rfl rfl h7 rfl V.ld ?_ | refine D.qOn rfl rfl h7 rfl V.lo ?_
          refine D.pOn rfl rfl h7 rfl (V.idx (by omega) (by omega)) ?_
          refine D.pOn rfl rfl h7 rfl V.eql ?_
          refine D.p rfl rfl (V.pT h7) ?_
          refine D.nl ?_
          refine cond (fun h8 => ?_) (fun h8 => ?_)
          ·
            have k8 := bp h8
            refine AW.region ?_
            refine st V.move ?_
            refine st (by first | exact V.nc | exact V.ncF) ?_
            refine st V.faz ?_
            refine se (S.store ?_)
            refine sn ?_
            repeat with_reducible refine inb_normal ?_
            refine thn_normal ?_
            exact met _ (List.Sublist.refl _) ⟨true, rfl, by simp, ⟨fun _ => ⟨by omega, by omega⟩, fun _ => rfl⟩⟩
          ·
            have k8 := bp h8
            refine AW.skip ?_
            repeat with_reducible refine inb_normal ?_
            refine thn_normal ?_
            exact met _ (List.Sublist.refl _) ⟨false, rfl, rfl, ⟨fun h => (by cases h), fun h => (by omega)⟩⟩
        ·
          have k7 := bp h7
          refine D.off rfl rfl (by rw [h7]; decide) ?_
          refine D.off rfl rfl (by rw [h7]; decide) ?_
          refine D.off rfl rfl (by rw [h7]; decide) ?_
          refine D.off rfl rfl (by rw [h7]; decide) ?_
          refine D.off rfl rfl (by rw [h7]; decide) ?_
          refine D.off rfl rfl (by rw [h7]; decide) ?_
          refine D.off rfl rfl (by rw [h7]; decide) ?_
          refine D.off rfl rfl (by rw [h7]; decide) ?_
          refine D.off rfl rfl (by rw [h7]; decide) ?_
          refine D.off rfl rfl (by rw [h7]; decide) ?_
          refine D.p rfl rfl (V.pF h7) ?_
          refine D.nl ?_
          refine cond (fun h => by cases h) (fun _ => ?_)
          refine AW.skip ?_
          repeat with_reducible refine inb_normal ?_
          refine thn_normal ?_
          exact met _ (List.Sublist.refl _) ⟨false, rfl, rfl, ⟨fun h => (by cases h), fun h => (by omega)⟩⟩
      ·
        intro Mc9 Hc9 iC9  hJ u79 u80 u81 u82 u83 u84 u85 u86 u87 u88 u89 u90 u91 u92 u93 u94 u95 u96 u97 u98 u99 u100 u101 u102 u103
        obtain ⟨bd, hv, hH, hbd⟩ := hJ
        subst hH
        have e9 := word_bd hwx hbd
        refine sa ?_
        refine AW.cutL [] (104 :: 105 :: 106 :: 107 :: 108 :: 109 :: 110 :: 111 :: 112 :: 113 :: 114 :: 115 :: 116 :: 117 :: []) (fun vs M' H' => vs = [] ∧ H' = .blk b2 (.cells #[.string ⟨#[]⟩, .int .i64 0, .slice none 0 0] 109 (0, 0)) :: .blk b (.cells #[.string s, .int .i64 (wE s a : Nat), .bool bd] 106 (0, 0)) :: H ∧ ¬ (w ≠ ⟨#[]⟩ ∧ 65 ≤ byt w 0 ∧ byt w 0 ≤ 90)) ?_ ?_
        ·
          refine AW.seq ?_
          refine AW.region ?_
          refine st V.move ?_
          refine st V.nes ?_
          refine st V.move ?_
          refine onoff false rfl rfl (fun h10 => ?_) (fun h10 => ?_)
          ·
            have k10 := bp h10
            have z0 := size_pos (show ¬ w = ⟨#[]⟩ by simp_all)
            refine st V.move ?_
            refine on rfl h10 ?_
            refine st (V.idx (by omega) (by omega)) ?_
            refine on rfl h10 ?_
            refine st V.geq ?_
            refine st (V.pT h10) ?_
            refine st V.move ?_
            refine onoff false rfl rfl (fun h11 => ?_) (fun h11 => ?_)
            ·
              have k11 := bp h11
              refine st V.move ?_
              refine on rfl h11 ?_
              refine st (V.idx (by omega) (by omega)) ?_
              refine on rfl h11 ?_
              refine st V.leq ?_
              refine st (V.pT h11) ?_
              refine sn ?_
              refine cond (fun h12 => ?_) (fun h12 => ?_)
              ·
                have k12 := bp h12
                refine AW.seq ?_
                refine AW.region ?_
                refine st V.move ?_
                refine st (V.build (cells := [.string w, .int .i64 0, .slice none 0 0]) rfl) ?_
                refine se (S.storeA rfl ?_)
                refine sn ?_
                refine AW.ret ?_
                repeat with_reducible first | refine thn_ret ?_ | refine inb_ret ?_
                refine fin (Res.ic rfl) ?_
                have e8 := wd_some e9 (show wdF w = some ⟨w, 0, []⟩ by rw [wdF, if_neg (by simp_all), if_pos ⟨by omega, by omega⟩])
                rw [e8.1]
                exact ⟨_, (by repeat first | exact List.Sublist.refl _ | apply List.Sublist.cons), ⟨_, _, rfl, e8.2⟩, rfl⟩
              ·
                have k12 := bp h12
                refine AW.skip ?_
                repeat with_reducible refine inb_normal ?_
                refine thn_normal ?_
                exact met _ (List.Sublist.refl _) ⟨rfl, rfl, fun hh => by first | omega | exact hh.1 (by assumption) | exact absurd hh.1 (by simp_all)⟩
            ·
              have k11 := bp h11
              refine off rfl h11 ?_
              refine off rfl h11 ?_
              refine st (V.pF h11) ?_
              refine sn ?_
              refine cond (fun h => by cases h) (fun _ => ?_)
              refine AW.skip ?_
              repeat with_reducible refine inb_normal ?_
              refine thn_normal ?_
              exact met _ (List.Sublist.refl _) ⟨rfl, rfl, fun hh => by first | omega | exact hh.1 (by assumption) | exact absurd hh.1 (by simp_all)⟩
          ·
            have k10 := bp h10
            refine off rfl h10 ?_
            refine off rfl h10 ?_
            refine st (V.pF h10) ?_
            refine st V.move ?_
            refine off rfl rfl ?_
            refine off rfl rfl ?_
            refine off rfl rfl ?_
            refine st (V.pF rfl) ?_
            refine sn ?_
            refine cond (fun h => by cases h) (fun _ => ?_)
            refine AW.skip ?_
            repeat with_reducible refine inb_normal ?_
            refine thn_normal ?_
            exact met _ (List.Sublist.refl _) ⟨rfl, rfl, fun hh => by first | omega | exact hh.1 (by assumption) | exact absurd hh.1 (by simp_all)⟩
        ·
          intro Mc11 Hc11 iC11  hJ u104 u105 u106 u107 u108 u109 u110 u111 u112 u113 u114 u115 u116 u117
          obtain ⟨hv, hH, hw2⟩ := hJ
          subst hH
          have ewi := wd_int hw2
          refine sa ?_
          refine AW.seq ?_
          refine AW.region ?_
          refine st V.move ?_
          refine se (S.call ?_)
          refine (r_integer_c _ _ w (by omega)).use ?_
          rintro v11 N11 G11 iz11 ⟨ni, ok, rfl, hok, hni, hG⟩
          obtain rfl := hG.symm
          refine st V.move ?_
          refine st V.ext ?_
          refine st V.ext ?_
          refine st V.assign ?_
          refine st V.assign ?_
          refine sn ?_
          refine AW.seq ?_
          refine AW.region ?_
          refine st V.move ?_
          refine st V.move ?_
          refine st (by first | exact V.nc | exact V.ncF) ?_
          refine st V.faz ?_
          first | refine st V.ld ?_ | refine sq V.lo ?_
          refine st V.move ?_
          refine onoff true rfl rfl (fun h15 => ?_) (fun h15 => ?_)
          ·
            have k15 := bp h15
            refine st V.move ?_
            refine on rfl h15 ?_
            refine st V.not ?_
            refine st (V.pF h15) ?_
            refine st (by first | exact V.nc | exact V.ncF) ?_
            refine st V.faz ?_
            refine se (S.store ?_)
            refine sn ?_
            refine AW.seq ?_
            refine AW.region ?_
            refine st V.move ?_
            refine st (V.build (cells := [.string ⟨#[]⟩, .int .i64 ni, .slice none 0 0]) rfl) ?_
            refine se (S.storeA rfl ?_)
            refine sn ?_
            refine AW.ret ?_
            repeat with_reducible first | refine thn_ret ?_ | refine inb_ret ?_
            refine fin (Res.ic rfl) ?_
            have e8 := wd_i e9 ewi hok hni
            have hb : bd = false := by assumption
            rw [hb, Bool.false_or] at e8
            rw [e8.1]
            exact ⟨_, (by repeat first | exact List.Sublist.refl _ | apply List.Sublist.cons), ⟨_, _, rfl, e8.2⟩, rfl⟩
          ·
            have k15 := bp h15
            refine off rfl h15 ?_
            refine st (V.pT h15) ?_
            refine st (by first | exact V.nc | exact V.ncF) ?_
            refine st V.faz ?_
            refine se (S.store ?_)
            refine sn ?_
            refine AW.seq ?_
            refine AW.region ?_
            refine st V.move ?_
            refine st (V.build (cells := [.string ⟨#[]⟩, .int .i64 ni, .slice none 0 0]) rfl) ?_
            refine se (S.storeA rfl ?_)
            refine sn ?_
            refine AW.ret ?_
            repeat with_reducible first | refine thn_ret ?_ | refine inb_ret ?_
            refine fin (Res.ic rfl) ?_
            have e8 := wd_i e9 ewi hok hni
            have hb : bd = true := by assumption
            rw [hb, Bool.true_or] at e8
            rw [e8.1]
            exact ⟨_, (by repeat first | exact List.Sublist.refl _ | apply List.Sublist.cons), ⟨_, _, rfl, e8.2⟩, rfl⟩
end Go.Proofs.YtieaiheejhmbfaaGreatDoor.ML
