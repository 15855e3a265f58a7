/- Canonical decimal texts: what is one, its number, the text of a number; what the program's Valid and strconv's parsing tell of them. No condition but sizes. -/
import Derived.Test.YtdnjlmoggnbknaaDoorPIntD
import Derived.Test.YtdnjlmoggnbknaaDoorLima
import Derived.Test.YtdnjlmoggnbknaaDoorLimb
import Derived.Test.YtdnjlmoggnbknaaDoorDec
namespace Go.Proofs.YtdnjlmoggnbknaaDoor.PInt
open Go.RowKit Go.Proofs.YtdnjlmoggnbknaaDoor.Ext Go.Proofs.YtdnjlmoggnbknaaDoorW.PrintWords Go.Proofs.YtdnjlmoggnbknaaDoor.Dec
set_option linter.unusedVariables false
set_option linter.unusedSimpArgs false

def lst (s : ByteArray) : Bs := s.data.toList
def mkS (l : Bs) : ByteArray := ⟨l.toArray⟩
@[simp] theorem lst_mkS (l : Bs) : lst (mkS l) = l := List.toList_toArray
@[simp] theorem mkS_lst (s : ByteArray) : mkS (lst s) = s := by cases s; rfl
theorem size_lst (s : ByteArray) : s.size = (lst s).length := (Array.length_toList).symm
theorem size_mkS (l : Bs) : (mkS l).size = l.length := by rw [size_lst, lst_mkS]
theorem toList_lst (s : ByteArray) : s.toList = lst s := Lib.toList_data s
theorem lst_inj {a b : ByteArray} (h : lst a = lst b) : a = b := by rw [← mkS_lst a, h, mkS_lst]
theorem lst_extract (s : ByteArray) (a b : Nat) : lst (s.extract a b) = ((lst s).take b).drop a := by
  simp [lst, ByteArray.data_extract, Array.toList_extract, List.extract_eq_take_drop, List.drop_take]
theorem extract_mk (s : ByteArray) (a b : Nat) : s.extract a b = mkS (((lst s).take b).drop a) := lst_inj (by rw [lst_extract, lst_mkS])
theorem bt_get (s : ByteArray) (i : Nat) (h : i < (lst s).length) : bt s (i : Int) = (((lst s)[i]'h).toNat : Int) := by
  have h' : i < s.size := by rw [size_lst]; exact h
  simp only [bt, Int.toNat_natCast, dif_pos h']
  rfl
theorem wrap_ok {i : Int} (h0 : -9223372036854775808 ≤ i) (h1 : i ≤ 9223372036854775807) : wrap64 i = i := by unfold wrap64; omega
theorem wrap_u {i : Int} (h0 : 0 ≤ i) (h1 : i < 18446744073709551616) : IntKind.u64.wrap i = i := by rw [IntKind.wrap_u64]; omega
theorem mid_lt {α : Type} {L pre : List α} {c : α} {r : List α} (h : L = pre ++ c :: r) : pre.length < L.length := by rw [h]; simp
theorem mid_get {α : Type} {L pre : List α} {c : α} {r : List α} (h : L = pre ++ c :: r) (hl : pre.length < L.length) : L[pre.length]'hl = c := by subst h; simp
theorem bt_mid {s : ByteArray} {pre : Bs} {c : UInt8} {r : Bs} (h : lst s = pre ++ c :: r) : bt s (pre.length : Int) = (c.toNat : Int) := by
  rw [bt_get s pre.length (mid_lt h), mid_get h]
theorem rd_mid {L pre : List Int} {x : Int} {r : List Int} (h : L = pre ++ x :: r) {i : Int} (hi : i = pre.length) : rd L i = x := by
  subst h hi
  simp [rd]
theorem rd_lt {L : List Int} {i : Int} (h0 : 0 ≤ i) (h : i < (L.length : Int)) : ∃ pre r, L = pre ++ rd L i :: r ∧ i = pre.length := by
  refine ⟨L.take i.toNat, L.drop (i.toNat + 1), ?_, ?_⟩
  · have hl : i.toNat < L.length := by omega
    rw [rd, List.getD_eq_getElem?_getD, List.getElem?_eq_getElem hl, Option.getD_some, ← List.drop_eq_getElem_cons hl, List.take_append_drop]
  · rw [List.length_take]; omega
theorem dg_lib : ∀ n, Lib.decDigits n = dg n := by
  intro n
  induction n using Nat.strongRecOn with
  | _ n ih =>
    by_cases h : n < 10
    · rw [Lib.decDigits, dif_pos h, dg_small h]; rfl
    · rw [Lib.decDigits, dif_neg h, dg_big h, ih (n / 10) (by omega)]; rfl
theorem isDig_nat (c : UInt8) : isDig c = true ↔ 48 ≤ c.toNat ∧ c.toNat ≤ 57 := by simp [isDig]

/-- Without the sign. -/
def strip : Bs → Bs
  | [] => []
  | c :: r => if c = 45 then r else c :: r
/-- The text of a number. -/
def T (z : Int) : Bs := if z < 0 then 45 :: dg z.natAbs else dg z.natAbs
/-- Is a text canonical, of at most 400 digits? -/
def vB (l : Bs) : Bool := l == [48] || (match strip l with | [] => false | c :: r => decide ((c :: r).length ≤ 400) && !(c == 48) && (c :: r).all isDig)
/-- Powers of ten. -/
def p10 (k : Nat) : Nat := 10 ^ k
theorem p10_pos (k : Nat) : 0 < p10 k := pow_pos10 k
theorem p10_len (k n : Nat) : (dg n).length ≤ k + 1 ↔ n < p10 (k + 1) := dg_len k n
/-- The least number of more than 400 digits. -/
def lim400 : Nat := p10 400
theorem lim_pos : 0 < lim400 := p10_pos _
theorem T_neg {n : Nat} (h : n ≠ 0) : T (-(n : Int)) = 45 :: dg n := by
  unfold T
  rw [if_pos (by omega)]
  simp
theorem T_nat (n : Nat) : T (n : Int) = dg n := by
  unfold T
  rw [if_neg (by omega)]
  simp
theorem T_zero : T 0 = [48] := by rw [show (0 : Int) = ((0 : Nat) : Int) from rfl, T_nat, dg_small (by decide)]; rfl
theorem dg_ne45 (n : Nat) (r : Bs) : dg n ≠ 45 :: r := by
  intro e
  have h := dg_dig n 45 (by rw [e]; simp)
  rw [isDig_nat] at h
  have : (45 : UInt8).toNat = 45 := rfl
  omega
theorem strip_dg (n : Nat) : strip (dg n) = dg n := by
  cases h : dg n with
  | nil => rfl
  | cons c r =>
    simp only [strip]
    rw [if_neg]
    intro e
    subst e
    exact dg_ne45 n r h
theorem strip_T (z : Int) : strip (T z) = dg z.natAbs := by
  unfold T
  by_cases h : z < 0
  · rw [if_pos h]; rfl
  · rw [if_neg h, strip_dg]
theorem T_inj {a b : Int} (h : T a = T b) : a = b := by
  have h1 := congrArg strip h
  rw [strip_T, strip_T] at h1
  have h2 := congrArg (val 0) h1
  rw [dg_val, dg_val] at h2
  unfold T at h
  by_cases ha : a < 0
  · by_cases hb : b < 0
    · omega
    · rw [if_pos ha, if_neg hb] at h
      exact absurd h.symm (dg_ne45 _ _)
  · by_cases hb : b < 0
    · rw [if_neg ha, if_pos hb] at h
      exact absurd h (dg_ne45 _ _)
    · omega
theorem T_eq_zero {z : Int} : T z = [48] ↔ z = 0 := by
  rw [← T_zero]
  exact ⟨T_inj, fun h => by rw [h]⟩
theorem dg_len400 (n : Nat) : (dg n).length ≤ 400 ↔ n < lim400 := p10_len 399 n
theorem vB_T {z : Int} (h : z.natAbs < lim400) : vB (T z) = true := by
  unfold vB
  by_cases h0 : z = 0
  · subst h0; rw [T_zero]; rfl
  · rw [strip_T]
    obtain ⟨c, r, e, hc⟩ := dg_head z.natAbs (by omega)
    have hl := (dg_len400 _).2 h
    have hd : ∀ x ∈ c :: r, isDig x = true := by rw [← e]; exact dg_dig _
    rw [e] at hl ⊢
    simp only [Bool.or_eq_true, Bool.and_eq_true, decide_eq_true_eq, List.all_eq_true]
    exact .inr ⟨⟨hl, by simpa using hc⟩, hd⟩
theorem T_vB {l : Bs} (h : vB l = true) : ∃ z : Int, l = T z ∧ z.natAbs < lim400 := by
  unfold vB at h
  rw [Bool.or_eq_true] at h
  rcases h with h | h
  · exact ⟨0, by rw [T_zero]; simpa using h, lim_pos⟩
  · cases hs : strip l with
    | nil => rw [hs] at h; cases h
    | cons c r =>
      rw [hs] at h
      simp only [Bool.and_eq_true, decide_eq_true_eq, List.all_eq_true] at h
      obtain ⟨⟨h1, h2⟩, h3⟩ := h
      have h2' : c ≠ 48 := by simpa using h2
      have hv : dg (val 0 (c :: r)) = c :: r := dg_of_val (c :: r) h3 (by simp) (fun c' r' e _ => by injection e with e _; rw [← e]; exact h2')
      have hlt : val 0 (c :: r) < lim400 := (dg_len400 _).1 (by rw [hv]; exact h1)
      cases l with
      | nil => cases hs
      | cons b t =>
        simp only [strip] at hs
        by_cases hb : b = 45
        · rw [if_pos hb] at hs
          subst hb hs
          have hn0 : val 0 (c :: r) ≠ 0 := by
            intro e
            rw [e, dg_small (by decide)] at hv
            injection hv with hv _
            exact h2' (by rw [← hv]; rfl)
          exact ⟨-(val 0 (c :: r) : Int), by rw [T_neg hn0, hv], by simpa using hlt⟩
        · rw [if_neg hb] at hs
          exact ⟨(val 0 (c :: r) : Int), by rw [T_nat, hv, hs], by simpa using hlt⟩
end Go.Proofs.YtdnjlmoggnbknaaDoor.PInt
