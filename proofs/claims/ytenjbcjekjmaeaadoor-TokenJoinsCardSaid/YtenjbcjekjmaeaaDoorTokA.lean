/- The tokens of a source as a plain function of its bytes (scan), the bytes' classes, and small laws about bytes, cuts and runs. No condition. -/
import Derived.Test.YtenjbcjekjmaeaaDoorPTokD
namespace Go.Proofs.YtenjbcjekjmaeaaDoor.PTok
open Go.RowKit Go.Proofs.YtenjbcjekjmaeaaDoor.Ext Go.Proofs.YtenjbcjekjmaeaaDoorW.PrintWords
set_option linter.unusedVariables false
set_option linter.unusedSimpArgs false

abbrev Bs := List UInt8
def lst (s : ByteArray) : Bs := s.data.toList
def mkS (l : Bs) : ByteArray := ⟨l.toArray⟩
@[simp] theorem lst_mkS (l : Bs) : lst (mkS l) = l := List.toList_toArray
@[simp] theorem mkS_lst (s : ByteArray) : mkS (lst s) = s := by cases s; rfl
theorem size_lst (s : ByteArray) : s.size = (lst s).length := (Array.length_toList).symm
theorem toList_lst (s : ByteArray) : s.toList = lst s := Lib.toList_data s
theorem lst_inj {a b : ByteArray} (h : lst a = lst b) : a = b := by rw [← mkS_lst a, h, mkS_lst]
theorem lst_extract (s : ByteArray) (a b : Nat) : lst (s.extract a b) = ((lst s).take b).drop a := by
  simp [lst, ByteArray.data_extract, Array.toList_extract, List.extract_eq_take_drop, List.drop_take]
theorem extract_mk (s : ByteArray) (a b : Nat) : s.extract a b = mkS (((lst s).take b).drop a) := lst_inj (by rw [lst_extract, lst_mkS])
theorem bt_get (s : ByteArray) (i : Nat) (h : i < (lst s).length) : bt s (i : Int) = (((lst s)[i]'h).toNat : Int) := by
  have h' : i < s.size := by rw [size_lst]; exact h
  simp only [bt, Int.toNat_natCast, dif_pos h']
  rfl

def isDig (c : UInt8) : Bool := decide (48 ≤ c.toNat) && decide (c.toNat ≤ 57)
def isName (c : UInt8) : Bool := nameB c.toNat
def isWhite (c : UInt8) : Bool := decide (c.toNat = 32 ∨ c.toNat = 9 ∨ c.toNat = 13 ∨ c.toNat = 10)
def isDash (c : UInt8) : Bool := decide (c.toNat = 45)
def isLow (c : UInt8) : Bool := decide (c.toNat = 95)
def notLf (c : UInt8) : Bool := decide (c.toNat ≠ 10)
def isUp (c : UInt8) : Bool := decide (65 ≤ c.toNat) && decide (c.toNat ≤ 90)
/-- A byte that may stand in a source. -/
def isFine (c : UInt8) : Bool := decide ((32 ≤ c.toNat ∧ c.toNat ≤ 126) ∨ c.toNat = 9 ∨ c.toNat = 13 ∨ c.toNat = 10)
def kws : List Bs := [[109, 111, 100, 117, 108, 101], [105, 109, 112, 111, 114, 116], [100, 97, 116, 97], [102, 117, 110], [114, 101, 97, 100], [108, 101, 116], [105, 110], [105, 102], [116, 104, 101, 110], [101, 108, 115, 101], [109, 97, 116, 99, 104], [118, 105, 101, 119], [119, 105, 116, 104], [101, 110, 100], [99, 111, 112, 121]]
def twos : List Bs := [[61, 61], [45, 62], [60, 61]]
def ones : Bs := [40, 41, 44, 124, 61, 58, 60, 43, 45, 42, 47, 37, 95]
def isNum (l : Bs) : Bool := match Lib.parseIntB 64 l with | .ok _ => true | _ => false
/-- The length of the punctuation at the beginning, or 0. -/
def punct (l : Bs) : Nat := if twos.contains (l.take 2) then 2 else match l with | [] => 0 | c :: _ => if ones.contains c then 1 else 0
/-- May a - in front of a digit be a sign, behind this token? -/
def sgn : Option (Nat × Bs) → Bool
  | none => true
  | some (kd, t) => kd == 5 || (kd == 4 && !(t == [41] || t == [58] || t == [95]))
inductive Step where
  | white
  | note (n : Nat)
  | tok (kd n : Nat)
  | err (off code : Nat)
def headIs (p : UInt8 → Bool) : Bs → Bool
  | [] => false
  | c :: _ => p c
/-- What stands at the beginning. -/
def step (c : UInt8) (r : Bs) (last : Option (Nat × Bs)) : Step :=
  if isWhite c then .white
  else if isDash c && headIs isDash r then .note ((c :: r).takeWhile notLf).length
  else if isName c && !isDig c && !isLow c then
    (let n := 1 + (r.takeWhile isName).length
     if 32 < n then .err 0 5 else .tok (if c.toNat ≤ 90 then 2 else if kws.contains ((c :: r).take n) then 5 else 1) n)
  else if isDig c || (isDash c && headIs isDig r && sgn last) then
    (let n := 1 + (r.takeWhile isDig).length
     if !isNum ((c :: r).take n) then .err 0 2 else if headIs isName ((c :: r).drop n) then .err n 4 else .tok 3 n)
  else if isLow c && headIs isName r then .err 0 4
  else match punct (c :: r) with | 0 => .err 0 4 | n + 1 => .tok 4 (n + 1)
structure Tk where
  kd : Nat
  text : Bs
  a : Nat
  b : Nat
inductive Res where
  | ok (ts : List Tk) (ns : List (Nat × Nat))
  | err (off code : Nat)
def Res.addT (t : Tk) : Res → Res
  | .ok ts ns => .ok (t :: ts) ns
  | r => r
def Res.addN (n : Nat × Nat) : Res → Res
  | .ok ts ns => .ok ts (n :: ns)
  | r => r
/-- The tokens and comments from offset p on. m: at least the length. -/
def scan : Nat → Nat → Bs → Option (Nat × Bs) → Res
  | _, p, [], _ => .ok [⟨6, [], p, p⟩] []
  | 0, _, _ :: _, _ => .err 0 0
  | m + 1, p, c :: r, last =>
    match step c r last with
    | .white => scan m (p + 1) r last
    | .note n => (scan m (p + n) ((c :: r).drop n) last).addN (p, p + n)
    | .tok kd n => (scan m (p + n) ((c :: r).drop n) (some (kd, (c :: r).take n))).addT ⟨kd, (c :: r).take n, p, p + n⟩
    | .err o e => .err (p + o) e

theorem takeWhile_len {α : Type} (p : α → Bool) (l : List α) : (l.takeWhile p).length ≤ l.length := List.Sublist.length_le (List.takeWhile_sublist p)
theorem headIs_iff (p : UInt8 → Bool) (r : Bs) : headIs p r = true ↔ ∃ h : 0 < r.length, p (r[0]'h) = true := by
  cases r <;> simp [headIs]
/-- What is told is at least one byte, and no more than there are. -/
theorem step_note {c : UInt8} {r : Bs} {last : Option (Nat × Bs)} {n : Nat} (h : step c r last = .note n) : n = ((c :: r).takeWhile notLf).length ∧ c = 45 := by
  unfold step at h
  split at h
  · cases h
  · split at h
    · rename_i h2
      injection h with h
      simp [isDash] at h2
      exact ⟨h.symm, UInt8.toNat_inj.1 h2.1⟩
    · dsimp only at h
      repeat' (first | (split at h) | (cases h))
theorem punct_le (l : Bs) : punct l ≤ l.length := by
  unfold punct
  split
  · rename_i h
    have : l.take 2 ∈ twos := by simpa using h
    have hl : (l.take 2).length = 2 := by simp [twos] at this; rcases this with h | h | h <;> rw [h] <;> rfl
    simp at hl; omega
  · cases l with
    | nil => simp
    | cons c r => simp; split <;> omega
theorem step_tok {c : UInt8} {r : Bs} {last : Option (Nat × Bs)} {kd n : Nat} (h : step c r last = .tok kd n) : 1 ≤ n ∧ n ≤ r.length + 1 := by
  unfold step at h
  have h1 := takeWhile_len isName r
  have h2 := takeWhile_len isDig r
  have h3 := punct_le (c :: r)
  split at h
  · cases h
  · split at h
    · cases h
    · split at h
      · dsimp only at h
        split at h
        · cases h
        · injection h with _ h; omega
      · split at h
        · dsimp only at h
          split at h
          · cases h
          · split at h
            · cases h
            · injection h with _ h; omega
        · split at h
          · cases h
          · split at h
            · cases h
            · rename_i n0 hp
              injection h with _ h
              simp at h3; omega
end Go.Proofs.YtenjbcjekjmaeaaDoor.PTok
