-- Written by a program of this session's (xprint.py) over the kit's print.
import Derived.Test.YtdnjlmoggnbknaaDoorPIntx0
namespace Go.Proofs.YtdnjlmoggnbknaaDoor.PInt
open Go.RowKit Go.Proofs.YtdnjlmoggnbknaaDoor.Ext Go.Proofs.YtdnjlmoggnbknaaDoorW.PrintWords Go.Proofs.YtdnjlmoggnbknaaDoorW.PrintLast Go.Proofs.YtdnjlmoggnbknaaDoorW.PrintMore
attribute [local go_sem high] gtr_print leq_print
attribute [local go_sem] max2_int min2_int max_two min_two max_three min_three max_four min_four   -- for this text's walks alone
set_option linter.unusedVariables false
set_option linter.unusedSimpArgs false

/-! ### stringslite_HasPrefix: function 75 -/
def stringslite_HasPrefix.f (a0 : ByteArray) (a1 : ByteArray) : Option (Bool) := if (a0.size : Int) ≥ (a1.size : Int) then (if 0 ≤ (a1.size : Int) then (if (a1.size : Int) ≤ (a0.size : Int) then (some ((a0.extract 0 ((a1.size : Int) : Int).toNat).toList == a1.toList)) else (none)) else (none)) else (some false)
/-! ### stringslite_TrimPrefix: function 65 -/
def stringslite_TrimPrefix.f (a0 : ByteArray) (a1 : ByteArray) : Option (ByteArray) := (stringslite_HasPrefix.f a0 a1).bind fun t101 => (if t101 = true then (if 0 ≤ (a1.size : Int) then (if (a1.size : Int) ≤ (a0.size : Int) then (some (a0.extract ((a1.size : Int) : Int).toNat a0.size)) else (none)) else (none)) else (some a0))
/-! ### strings_TrimPrefix: function 49 -/
def strings_TrimPrefix.f (a0 : ByteArray) (a1 : ByteArray) : Option (ByteArray) := (stringslite_TrimPrefix.f a0 a1).bind fun t102 => (some t102)
/-! ### integer_Valid: function 23 -/
mutual
def integer_Valid.j0 : Nat → ByteArray → Bool → Option (Bool)
 | 0, _, _ => none
 | k + 1, x3, x21 => if x21 = true then (some false) else (integer_Valid.l0 k x3 (x3.size : Int) 0)
def integer_Valid.l0 : Nat → ByteArray → Int → Int → Option (Bool)
 | 0, _, _, _ => none
 | k + 1, x3, x23, x24 => if x24 < x23 then (if 0 ≤ x24 then (if x24 < (x3.size : Int) then (if (bt x3 x24) < 48 then (some false) else (if (bt x3 x24) > 57 then (some false) else (integer_Valid.l0 k x3 x23 (wrap64 (x24 + 1))))) else (none)) else (none)) else (some true)
end
def integer_Valid.f (k : Nat) (a0 : ByteArray) : Option (Bool) := (strings_TrimPrefix.f a0 (⟨#[45]⟩ : ByteArray)).bind fun t103 => (if a0.toList = ([48] : List UInt8) then (some true) else (if (t103.size : Int) = 0 then (integer_Valid.j0 k t103 true) else (if (t103.size : Int) > 400 then (integer_Valid.j0 k t103 true) else (if 0 < (t103.size : Int) then (integer_Valid.j0 k t103 ((bt t103 0) == 48)) else (none)))))
theorem integer_Valid.mono_l : ∀ k, (∀ y0 y1, LeO (integer_Valid.j0 k y0 y1) (integer_Valid.j0 (k + 1) y0 y1)) ∧ (∀ y0 y1 y2, LeO (integer_Valid.l0 k y0 y1 y2) (integer_Valid.l0 (k + 1) y0 y1 y2))
 | 0 => ⟨fun _ _ r h => by simp [integer_Valid.j0] at h, fun _ _ _ r h => by simp [integer_Valid.l0] at h⟩
 | k + 1 => by
  obtain ⟨ih0, ih1⟩ := integer_Valid.mono_l k
  refine ⟨?_, ?_⟩
  all_goals (intros; first | unfold integer_Valid.j0 | unfold integer_Valid.l0)
  all_goals repeat' first
   | (with_reducible exact ih0 _ _)
   | (with_reducible exact ih1 _ _ _)
   | (with_reducible exact LeO.refl _)
   | (with_reducible exact LeO.none _)
   | (with_reducible refine LeO.ite ?_ ?_)
   | (with_reducible refine LeO.bind ?_ (fun _ => ?_))
   | exact ih0 _ _
   | exact ih1 _ _ _
   | exact LeO.none _
   | refine LeO.ite ?_ ?_
   | refine LeO.bind ?_ (fun _ => ?_)
theorem integer_Valid.mono : ∀ a0 k, LeO (integer_Valid.f k a0) (integer_Valid.f (k + 1) a0) := by
 intro a0 k
 obtain ⟨ih0, ih1⟩ := integer_Valid.mono_l k
 unfold integer_Valid.f
 repeat' first
   | (with_reducible exact ih0 _ _)
   | (with_reducible exact ih1 _ _ _)
   | (with_reducible exact LeO.refl _)
   | (with_reducible exact LeO.none _)
   | (with_reducible refine LeO.ite ?_ ?_)
   | (with_reducible refine LeO.bind ?_ (fun _ => ?_))
   | exact ih0 _ _
   | exact ih1 _ _ _
   | exact LeO.none _
   | refine LeO.ite ?_ ?_
   | refine LeO.bind ?_ (fun _ => ?_)
/-! ### integer_both: function 35 -/
def integer_both.f (k : Nat) (a0 : ByteArray) (a1 : ByteArray) : Option (Bool) := (integer_Valid.f k a0).bind fun t104 => (if t104 = true then ((integer_Valid.f k a1).bind fun t105 => (some t105)) else (some false))
theorem integer_both.mono : ∀ a0 a1 k, LeO (integer_both.f k a0 a1) (integer_both.f (k + 1) a0 a1) := by
 intro a0 a1 k
 unfold integer_both.f
 repeat' first
   | (with_reducible exact integer_Valid.mono _ _)
   | (with_reducible exact LeO.refl _)
   | (with_reducible exact LeO.none _)
   | (with_reducible refine LeO.ite ?_ ?_)
   | (with_reducible refine LeO.bind ?_ (fun _ => ?_))
   | exact integer_Valid.mono _ _
   | exact LeO.none _
   | refine LeO.ite ?_ ?_
   | refine LeO.bind ?_ (fun _ => ?_)
/-! ### strconv_ParseUint: function 53 -/
/-- base 10, 64 bits, a text that is such a number. -/
def strconv_ParseUint.f (a0 : ByteArray) (a1 a2 : Int) : Option (Int × Option Int) :=
 if a1 = 10 ∧ a2 = 64 ∧ a0.size ≤ 140737488351232 then
  (match Lib.parseUintB 64 a0.data.toList with
   | .ok v => some ((v : Int), none)
   | _ => none)
 else none
/-! ### integer_trimmed: function 54 -/
def integer_trimmed.l0 : Nat → List Int → Option (List Int)
 | 0, _ => none
 | k + 1, x0 => if (x0.length : Int) > 0 then (if 0 ≤ (wrap64 ((x0.length : Int) - 1)) then (if (wrap64 ((x0.length : Int) - 1)) < (x0.length : Int) then (if (rd x0 (wrap64 ((x0.length : Int) - 1))) = 0 then (if (wrap64 ((x0.length : Int) - 1)) ≤ (x0.length : Int) then (integer_trimmed.l0 k (x0.take ((wrap64 ((x0.length : Int) - 1)) : Int).toNat)) else (none)) else (some x0)) else (none)) else (none)) else (some x0)
def integer_trimmed.f (k : Nat) (l0 : List Int) : Option (List Int) := integer_trimmed.l0 k l0
theorem integer_trimmed.mono_l : ∀ k, (∀ y0, LeO (integer_trimmed.l0 k y0) (integer_trimmed.l0 (k + 1) y0))
 | 0 => fun _ r h => by simp [integer_trimmed.l0] at h
 | k + 1 => by
  have ih0 := integer_trimmed.mono_l k
  ·intro y0
   unfold integer_trimmed.l0
   repeat' first
   | (with_reducible exact ih0 _)
   | (with_reducible exact LeO.refl _)
   | (with_reducible exact LeO.none _)
   | (with_reducible refine LeO.ite ?_ ?_)
   | (with_reducible refine LeO.bind ?_ (fun _ => ?_))
   | exact ih0 _
   | exact LeO.none _
   | refine LeO.ite ?_ ?_
   | refine LeO.bind ?_ (fun _ => ?_)
theorem integer_trimmed.mono : ∀ a0 k, LeO (integer_trimmed.f k a0) (integer_trimmed.f (k + 1) a0) := by
 intro a0 k
 have ih0 := integer_trimmed.mono_l k
 unfold integer_trimmed.f
 repeat' first
   | (with_reducible exact ih0 _)
   | (with_reducible exact LeO.refl _)
   | (with_reducible exact LeO.none _)
   | (with_reducible refine LeO.ite ?_ ?_)
   | (with_reducible refine LeO.bind ?_ (fun _ => ?_))
   | exact ih0 _
   | exact LeO.none _
   | refine LeO.ite ?_ ?_
   | refine LeO.bind ?_ (fun _ => ?_)
/-! ### integer_read: function 36 -/
def integer_read.l0 : Nat → ByteArray → Bool → List Int → Option (Bool × List Int)
 | 0, _, _, _ => none
 | k + 1, x4, x114000, x114001 => if (x4.size : Int) > 0 then (if 0 ≤ (mx 0 (wrap64 ((x4.size : Int) - 9))) then (if (mx 0 (wrap64 ((x4.size : Int) - 9))) ≤ (x4.size : Int) then ((strconv_ParseUint.f (x4.extract ((mx 0 (wrap64 ((x4.size : Int) - 9))) : Int).toNat x4.size) 10 64).bind fun bt115 => (if x114001.length < 17592186044416 then (integer_read.l0 k (x4.extract 0 ((mx 0 (wrap64 ((x4.size : Int) - 9))) : Int).toNat) x114000 (x114001 ++ [bt115.1])) else (none))) else (none)) else (none)) else ((integer_trimmed.f k x114001).bind fun t120 => (some (x114000, t120)))
def integer_read.f (k : Nat) (a0 : ByteArray) : Option (Bool × List Int) := if 0 < (a0.size : Int) then ((strings_TrimPrefix.f a0 (⟨#[45]⟩ : ByteArray)).bind fun t114 => (integer_read.l0 k t114 ((bt a0 0) == 45) ([] : List Int))) else (none)
theorem integer_read.mono_l : ∀ k, (∀ y0 y1 y2, LeO (integer_read.l0 k y0 y1 y2) (integer_read.l0 (k + 1) y0 y1 y2))
 | 0 => fun _ _ _ r h => by simp [integer_read.l0] at h
 | k + 1 => by
  have ih0 := integer_read.mono_l k
  ·intro y0 y1 y2
   unfold integer_read.l0
   repeat' first
   | (with_reducible exact ih0 _ _ _)
   | (with_reducible exact integer_trimmed.mono _ _)
   | (with_reducible exact LeO.refl _)
   | (with_reducible exact LeO.none _)
   | (with_reducible refine LeO.ite ?_ ?_)
   | (with_reducible refine LeO.bind ?_ (fun _ => ?_))
   | exact ih0 _ _ _
   | exact integer_trimmed.mono _ _
   | exact LeO.none _
   | refine LeO.ite ?_ ?_
   | refine LeO.bind ?_ (fun _ => ?_)
theorem integer_read.mono : ∀ a0 k, LeO (integer_read.f k a0) (integer_read.f (k + 1) a0) := by
 intro a0 k
 have ih0 := integer_read.mono_l k
 unfold integer_read.f
 repeat' first
   | (with_reducible exact ih0 _ _ _)
   | (with_reducible exact integer_trimmed.mono _ _)
   | (with_reducible exact LeO.refl _)
   | (with_reducible exact LeO.none _)
   | (with_reducible refine LeO.ite ?_ ?_)
   | (with_reducible refine LeO.bind ?_ (fun _ => ?_))
   | exact ih0 _ _ _
   | exact integer_trimmed.mono _ _
   | exact LeO.none _
   | refine LeO.ite ?_ ?_
   | refine LeO.bind ?_ (fun _ => ?_)
/-! ### integer_times: function 50 -/
mutual
def integer_times.l0 : Nat → List Int → List Int → List Int → Int → Int → Option (List Int)
 | 0, _, _, _, _, _ => none
 | k + 1, x0, x1, x5, x17, x18 => if x18 < x17 then (integer_times.l1 k x0 x1 x5 x18 0 x17 x18 (x1.length : Int) 0) else ((integer_trimmed.f k x5).bind fun t126 => (some t126))
def integer_times.l1 : Nat → List Int → List Int → List Int → Int → Int → Int → Int → Int → Int → Option (List Int)
 | 0, _, _, _, _, _, _, _, _, _ => none
 | k + 1, x0, x1, x5, x6, x7, x17, x18, x22, x23 => if x23 < x22 then (if 0 ≤ (wrap64 (x6 + x23)) then (if (wrap64 (x6 + x23)) < (x5.length : Int) then (if 0 ≤ x6 then (if x6 < (x0.length : Int) then (if 0 ≤ x23 then (if x23 < (x1.length : Int) then (integer_times.l1 k x0 x1 (x5.set ((wrap64 (x6 + x23)) : Int).toNat (Int.tmod (IntKind.u64.wrap ((IntKind.u64.wrap ((rd x5 (wrap64 (x6 + x23))) + (IntKind.u64.wrap ((rd x0 x6) * (rd x1 x23))))) + x7)) 1000000000)) x6 (IntKind.u64.wrap (Int.tdiv (IntKind.u64.wrap ((IntKind.u64.wrap ((rd x5 (wrap64 (x6 + x23))) + (IntKind.u64.wrap ((rd x0 x6) * (rd x1 x23))))) + x7)) 1000000000)) x17 x18 x22 (wrap64 (x23 + 1))) else (none)) else (none)) else (none)) else (none)) else (none)) else (none)) else (if 0 ≤ (wrap64 (x6 + (x1.length : Int))) then (if (wrap64 (x6 + (x1.length : Int))) < (x5.length : Int) then (integer_times.l0 k x0 x1 (x5.set ((wrap64 (x6 + (x1.length : Int))) : Int).toNat (IntKind.u64.wrap ((rd x5 (wrap64 (x6 + (x1.length : Int)))) + x7))) x17 (wrap64 (x18 + 1))) else (none)) else (none))
end
def integer_times.f (k : Nat) (l0 : List Int) (l1 : List Int) : Option (List Int) := if 0 ≤ (wrap64 ((l0.length : Int) + (l1.length : Int))) then (if (wrap64 ((l0.length : Int) + (l1.length : Int)) : Int).toNat ≤ 35184372088832 then (integer_times.l0 k l0 l1 (List.replicate (wrap64 ((l0.length : Int) + (l1.length : Int)) : Int).toNat 0) (l0.length : Int) 0) else (none)) else (none)
theorem integer_times.mono_l : ∀ k, (∀ y0 y1 y2 y3 y4, LeO (integer_times.l0 k y0 y1 y2 y3 y4) (integer_times.l0 (k + 1) y0 y1 y2 y3 y4)) ∧ (∀ y0 y1 y2 y3 y4 y5 y6 y7 y8, LeO (integer_times.l1 k y0 y1 y2 y3 y4 y5 y6 y7 y8) (integer_times.l1 (k + 1) y0 y1 y2 y3 y4 y5 y6 y7 y8))
 | 0 => ⟨fun _ _ _ _ _ r h => by simp [integer_times.l0] at h, fun _ _ _ _ _ _ _ _ _ r h => by simp [integer_times.l1] at h⟩
 | k + 1 => by
  obtain ⟨ih0, ih1⟩ := integer_times.mono_l k
  refine ⟨?_, ?_⟩
  all_goals (intros; first | unfold integer_times.l0 | unfold integer_times.l1)
  all_goals repeat' first
   | (with_reducible exact ih0 _ _ _ _ _)
   | (with_reducible exact ih1 _ _ _ _ _ _ _ _ _)
   | (with_reducible exact integer_trimmed.mono _ _)
   | (with_reducible exact LeO.refl _)
   | (with_reducible exact LeO.none _)
   | (with_reducible refine LeO.ite ?_ ?_)
   | (with_reducible refine LeO.bind ?_ (fun _ => ?_))
   | exact ih0 _ _ _ _ _
   | exact ih1 _ _ _ _ _ _ _ _ _
   | exact integer_trimmed.mono _ _
   | exact LeO.none _
   | refine LeO.ite ?_ ?_
   | refine LeO.bind ?_ (fun _ => ?_)
theorem integer_times.mono : ∀ a0 a1 k, LeO (integer_times.f k a0 a1) (integer_times.f (k + 1) a0 a1) := by
 intro a0 a1 k
 obtain ⟨ih0, ih1⟩ := integer_times.mono_l k
 unfold integer_times.f
 repeat' first
   | (with_reducible exact ih0 _ _ _ _ _)
   | (with_reducible exact ih1 _ _ _ _ _ _ _ _ _)
   | (with_reducible exact integer_trimmed.mono _ _)
   | (with_reducible exact LeO.refl _)
   | (with_reducible exact LeO.none _)
   | (with_reducible refine LeO.ite ?_ ?_)
   | (with_reducible refine LeO.bind ?_ (fun _ => ?_))
   | exact ih0 _ _ _ _ _
   | exact ih1 _ _ _ _ _ _ _ _ _
   | exact integer_trimmed.mono _ _
   | exact LeO.none _
   | refine LeO.ite ?_ ?_
   | refine LeO.bind ?_ (fun _ => ?_)
/-! ### integer_compare: function 55 -/
def integer_compare.l0 : Nat → List Int → List Int → Int → Option (Int)
 | 0, _, _, _ => none
 | k + 1, x0, x1, x5 => if x5 ≥ 0 then (if 0 ≤ x5 then (if x5 < (x0.length : Int) then (if x5 < (x1.length : Int) then (if (rd x0 x5) = (rd x1 x5) then (integer_compare.l0 k x0 x1 (wrap64 (x5 - 1))) else (if (rd x0 x5) < (rd x1 x5) then (some (-1)) else (some 1))) else (none)) else (none)) else (none)) else (some 0)
def integer_compare.f (k : Nat) (l0 : List Int) (l1 : List Int) : Option (Int) := if (l0.length : Int) = (l1.length : Int) then (integer_compare.l0 k l0 l1 (wrap64 ((l0.length : Int) - 1))) else (if (l0.length : Int) < (l1.length : Int) then (some (-1)) else (some 1))
theorem integer_compare.mono_l : ∀ k, (∀ y0 y1 y2, LeO (integer_compare.l0 k y0 y1 y2) (integer_compare.l0 (k + 1) y0 y1 y2))
 | 0 => fun _ _ _ r h => by simp [integer_compare.l0] at h
 | k + 1 => by
  have ih0 := integer_compare.mono_l k
  ·intro y0 y1 y2
   unfold integer_compare.l0
   repeat' first
   | (with_reducible exact ih0 _ _ _)
   | (with_reducible exact LeO.refl _)
   | (with_reducible exact LeO.none _)
   | (with_reducible refine LeO.ite ?_ ?_)
   | (with_reducible refine LeO.bind ?_ (fun _ => ?_))
   | exact ih0 _ _ _
   | exact LeO.none _
   | refine LeO.ite ?_ ?_
   | refine LeO.bind ?_ (fun _ => ?_)
theorem integer_compare.mono : ∀ a0 a1 k, LeO (integer_compare.f k a0 a1) (integer_compare.f (k + 1) a0 a1) := by
 intro a0 a1 k
 have ih0 := integer_compare.mono_l k
 unfold integer_compare.f
 repeat' first
   | (with_reducible exact ih0 _ _ _)
   | (with_reducible exact LeO.refl _)
   | (with_reducible exact LeO.none _)
   | (with_reducible refine LeO.ite ?_ ?_)
   | (with_reducible refine LeO.bind ?_ (fun _ => ?_))
   | exact ih0 _ _ _
   | exact LeO.none _
   | refine LeO.ite ?_ ?_
   | refine LeO.bind ?_ (fun _ => ?_)
/-! ### integer_small: function 56 -/
def integer_small.l0 : Nat → List Int → Int → List Int → Int → Int → Option (List Int × Int)
 | 0, _, _, _, _, _ => none
 | k + 1, x0, x1, x6, x7, x8 => if x8 ≥ 0 then (if 0 ≤ x8 then (if x8 < (x0.length : Int) then (if x1 = 0 then (none) else (if x8 < (x6.length : Int) then (integer_small.l0 k x0 x1 (x6.set (x8 : Int).toNat (IntKind.u64.wrap (Int.tdiv (IntKind.u64.wrap ((IntKind.u64.wrap (x7 * 1000000000)) + (rd x0 x8))) x1))) (Int.tmod (IntKind.u64.wrap ((IntKind.u64.wrap (x7 * 1000000000)) + (rd x0 x8))) x1) (wrap64 (x8 - 1))) else (none))) else (none)) else (none)) else ((integer_trimmed.f k x6).bind fun t144 => (some (t144, x7)))
def integer_small.f (k : Nat) (l0 : List Int) (a1 : Int) : Option (List Int × Int) := if 0 ≤ (l0.length : Int) then (if ((l0.length : Int) : Int).toNat ≤ 35184372088832 then (integer_small.l0 k l0 a1 (List.replicate ((l0.length : Int) : Int).toNat 0) 0 (wrap64 ((l0.length : Int) - 1))) else (none)) else (none)
theorem integer_small.mono_l : ∀ k, (∀ y0 y1 y2 y3 y4, LeO (integer_small.l0 k y0 y1 y2 y3 y4) (integer_small.l0 (k + 1) y0 y1 y2 y3 y4))
 | 0 => fun _ _ _ _ _ r h => by simp [integer_small.l0] at h
 | k + 1 => by
  have ih0 := integer_small.mono_l k
  ·intro y0 y1 y2 y3 y4
   unfold integer_small.l0
   repeat' first
   | (with_reducible exact ih0 _ _ _ _ _)
   | (with_reducible exact integer_trimmed.mono _ _)
   | (with_reducible exact LeO.refl _)
   | (with_reducible exact LeO.none _)
   | (with_reducible refine LeO.ite ?_ ?_)
   | (with_reducible refine LeO.bind ?_ (fun _ => ?_))
   | exact ih0 _ _ _ _ _
   | exact integer_trimmed.mono _ _
   | exact LeO.none _
   | refine LeO.ite ?_ ?_
   | refine LeO.bind ?_ (fun _ => ?_)
theorem integer_small.mono : ∀ a0 a1 k, LeO (integer_small.f k a0 a1) (integer_small.f (k + 1) a0 a1) := by
 intro a0 a1 k
 have ih0 := integer_small.mono_l k
 unfold integer_small.f
 repeat' first
   | (with_reducible exact ih0 _ _ _ _ _)
   | (with_reducible exact integer_trimmed.mono _ _)
   | (with_reducible exact LeO.refl _)
   | (with_reducible exact LeO.none _)
   | (with_reducible refine LeO.ite ?_ ?_)
   | (with_reducible refine LeO.bind ?_ (fun _ => ?_))
   | exact ih0 _ _ _ _ _
   | exact integer_trimmed.mono _ _
   | exact LeO.none _
   | refine LeO.ite ?_ ?_
   | refine LeO.bind ?_ (fun _ => ?_)
def integer_small.T7 : Bool × List (List Nat × List Nat) := (true, [([], []), ([], []), ([], []), ([], []), ([2, 3], [2, 3]), ([], []), ([], []), ([5, 6], [5, 6]), ([0, 1, 0, 1, 2, 3, 4], [0, 1]), ([8, 4, 0, 1, 2, 3, 4], [4, 8]), ([7, 9, 0, 1, 2, 3, 4, 5, 6, 7, 8, 9], [7])])
def integer_small.B7 : List Nat := [0, 0, 0, 0, 12, 0, 0, 96, 31, 287, 1023]
theorem integer_small.tab7 : rtab .any (opsOf Tryd.f56 7) = integer_small.T7 := by kernel_rfl
theorem integer_small.bits7 : waitsOk integer_small.T7.2 integer_small.B7 = true := by kernel_rfl
/-! ### integer_minus: function 57 -/
def integer_minus.l0 : Nat → List Int → List Int → Int → Int → Int → Option (List Int)
 | 0, _, _, _, _, _ => none
 | k + 1, x1, x5, x6, x16, x17 => if x17 < x16 then (if x17 < (x1.length : Int) then (if 0 ≤ x17 then (if x17 < (x5.length : Int) then (if (rd x5 x17) < (IntKind.u64.wrap (x6 + (rd x1 x17))) then ((some (x5.set (x17 : Int).toNat (IntKind.u64.wrap ((rd x5 x17) + 1000000000)) : List Int)).bind fun y157 => (integer_minus.l0 k x1 (y157.set (x17 : Int).toNat (IntKind.u64.wrap ((rd y157 x17) - (IntKind.u64.wrap (x6 + (rd x1 x17)))))) 1 x16 (wrap64 (x17 + 1)))) else (integer_minus.l0 k x1 (x5.set (x17 : Int).toNat (IntKind.u64.wrap ((rd x5 x17) - (IntKind.u64.wrap (x6 + (rd x1 x17)))))) 0 x16 (wrap64 (x17 + 1)))) else (none)) else (none)) else (if 0 ≤ x17 then (if x17 < (x5.length : Int) then (if (rd x5 x17) < x6 then ((some (x5.set (x17 : Int).toNat (IntKind.u64.wrap ((rd x5 x17) + 1000000000)) : List Int)).bind fun y164 => (integer_minus.l0 k x1 (y164.set (x17 : Int).toNat (IntKind.u64.wrap ((rd y164 x17) - x6))) 1 x16 (wrap64 (x17 + 1)))) else (integer_minus.l0 k x1 (x5.set (x17 : Int).toNat (IntKind.u64.wrap ((rd x5 x17) - x6))) 0 x16 (wrap64 (x17 + 1)))) else (none)) else (none))) else ((integer_trimmed.f k x5).bind fun t151 => (some t151))
def integer_minus.f (k : Nat) (l0 : List Int) (l1 : List Int) : Option (List Int) := if 0 ≤ (l0.length : Int) then (if ((l0.length : Int) : Int).toNat ≤ 35184372088832 then ((some (List.replicate ((l0.length : Int) : Int).toNat 0 : List Int)).bind fun y147 => (if l0.length ≤ y147.length then ((some (l0 ++ y147.drop l0.length : List Int)).bind fun y150 => (integer_minus.l0 k l1 y150 0 (y150.length : Int) 0)) else (none))) else (none)) else (none)
theorem integer_minus.mono_l : ∀ k, (∀ y0 y1 y2 y3 y4, LeO (integer_minus.l0 k y0 y1 y2 y3 y4) (integer_minus.l0 (k + 1) y0 y1 y2 y3 y4))
 | 0 => fun _ _ _ _ _ r h => by simp [integer_minus.l0] at h
 | k + 1 => by
  have ih0 := integer_minus.mono_l k
  ·intro y0 y1 y2 y3 y4
   unfold integer_minus.l0
   repeat' first
   | (with_reducible exact ih0 _ _ _ _ _)
   | (with_reducible exact integer_trimmed.mono _ _)
   | (with_reducible exact LeO.refl _)
   | (with_reducible exact LeO.none _)
   | (with_reducible refine LeO.ite ?_ ?_)
   | (with_reducible refine LeO.bind ?_ (fun _ => ?_))
   | exact ih0 _ _ _ _ _
   | exact integer_trimmed.mono _ _
   | exact LeO.none _
   | refine LeO.ite ?_ ?_
   | refine LeO.bind ?_ (fun _ => ?_)
theorem integer_minus.mono : ∀ a0 a1 k, LeO (integer_minus.f k a0 a1) (integer_minus.f (k + 1) a0 a1) := by
 intro a0 a1 k
 have ih0 := integer_minus.mono_l k
 unfold integer_minus.f
 repeat' first
   | (with_reducible exact ih0 _ _ _ _ _)
   | (with_reducible exact integer_trimmed.mono _ _)
   | (with_reducible exact LeO.refl _)
   | (with_reducible exact LeO.none _)
   | (with_reducible refine LeO.ite ?_ ?_)
   | (with_reducible refine LeO.bind ?_ (fun _ => ?_))
   | exact ih0 _ _ _ _ _
   | exact integer_trimmed.mono _ _
   | exact LeO.none _
   | refine LeO.ite ?_ ?_
   | refine LeO.bind ?_ (fun _ => ?_)
/-! ### integer_divide: function 37 -/
mutual
def integer_divide.l0 : Nat → List Int → List Int → List Int → Int → List Int → List Int → Int → Option (List Int × List Int)
 | 0, _, _, _, _, _, _, _ => none
 | k + 1, x8, x9, x10, x11, x12, x13, x14 => if x14 ≥ 0 then (if 0 ≤ x14 then (if x14 < (x9.length : Int) then ((some (([rd x9 x14] : List Int) : List Int)).bind fun y207 => (if y207.length + x12.length < 17592186044416 then ((integer_trimmed.f k (y207 ++ x12)).bind fun t213 => (if (t213.length : Int) ≥ (x10.length : Int) then (if 0 ≤ (wrap64 ((x10.length : Int) - 1)) then (if (wrap64 ((x10.length : Int) - 1)) < (t213.length : Int) then (if (t213.length : Int) > (x10.length : Int) then (if 0 ≤ (x10.length : Int) then (if (x10.length : Int) < (t213.length : Int) then (if x11 = 0 then (none) else (integer_divide.j1 k x8 x9 x10 x11 t213 x13 x14 (mn (IntKind.u64.wrap (Int.tdiv (IntKind.u64.wrap ((rd t213 (wrap64 ((x10.length : Int) - 1))) + (IntKind.u64.wrap ((rd t213 (x10.length : Int)) * 1000000000)))) x11)) 999999999))) else (none)) else (none)) else (if x11 = 0 then (none) else (integer_divide.j1 k x8 x9 x10 x11 t213 x13 x14 (mn (IntKind.u64.wrap (Int.tdiv (rd t213 (wrap64 ((x10.length : Int) - 1))) x11)) 999999999)))) else (none)) else (none)) else (integer_divide.j1 k x8 x9 x10 x11 t213 x13 x14 0))) else (none))) else (none)) else (none)) else (if 0 < (x8.length : Int) then ((integer_small.f k x12 (rd x8 0)).bind fun bt199 => ((integer_trimmed.f k x13).bind fun t203 => (some (t203, bt199.1)))) else (none))
def integer_divide.j1 : Nat → List Int → List Int → List Int → Int → List Int → List Int → Int → Int → Option (List Int × List Int)
 | 0, _, _, _, _, _, _, _, _ => none
 | k + 1, x8, x9, x10, x11, x12, x13, x14, x15 => (integer_times.f k x10 (([x15] : List Int))).bind fun t221 => (if x15 = 0 then (integer_divide.j2 k x8 x9 x10 x11 x12 x13 x14 x15 ([] : List Int)) else (integer_divide.j2 k x8 x9 x10 x11 x12 x13 x14 x15 t221))
def integer_divide.j2 : Nat → List Int → List Int → List Int → Int → List Int → List Int → Int → Int → List Int → Option (List Int × List Int)
 | 0, _, _, _, _, _, _, _, _, _ => none
 | k + 1, x8, x9, x10, x11, x12, x13, x14, x15, x17 => integer_divide.l1 k x8 x9 x10 x11 x12 x13 x14 x15 x17
def integer_divide.l1 : Nat → List Int → List Int → List Int → Int → List Int → List Int → Int → Int → List Int → Option (List Int × List Int)
 | 0, _, _, _, _, _, _, _, _, _ => none
 | k + 1, x8, x9, x10, x11, x12, x13, x14, x15, x17 => (integer_compare.f k x17 x12).bind fun t224 => (if t224 > 0 then ((integer_minus.f k x17 x10).bind fun t225 => (integer_divide.l1 k x8 x9 x10 x11 x12 x13 x14 (IntKind.u64.wrap (x15 - 1)) t225)) else (if 0 ≤ x14 then (if x14 < (x13.length : Int) then ((integer_minus.f k x12 x17).bind fun t229 => (integer_divide.l0 k x8 x9 x10 x11 t229 (x13.set (x14 : Int).toNat x15) (wrap64 (x14 - 1)))) else (none)) else (none)))
end
def integer_divide.f (k : Nat) (l0 : List Int) (l1 : List Int) : Option (List Int × List Int) := (integer_compare.f k l0 l1).bind fun t169 => (if t169 < 0 then (some (([] : List Int), l0)) else (if (l1.length : Int) = 1 then (if 0 < (l1.length : Int) then ((integer_small.f k l0 (rd l1 0)).bind fun bt171 => ((integer_trimmed.f k (([bt171.2] : List Int))).bind fun t178 => (some (bt171.1, t178)))) else (none)) else (if 0 ≤ (wrap64 ((l1.length : Int) - 1)) then (if (wrap64 ((l1.length : Int) - 1)) < (l1.length : Int) then (if (IntKind.u64.wrap ((rd l1 (wrap64 ((l1.length : Int) - 1))) + 1)) = 0 then (none) else ((some (([IntKind.u64.wrap (Int.tdiv (1000000000 : Int) (IntKind.u64.wrap ((rd l1 (wrap64 ((l1.length : Int) - 1))) + 1)))] : List Int) : List Int)).bind fun y182 => ((integer_times.f k l0 y182).bind fun t185 => ((integer_times.f k l1 y182).bind fun t188 => (if 0 ≤ (wrap64 ((t188.length : Int) - 1)) then (if (wrap64 ((t188.length : Int) - 1)) < (t188.length : Int) then (if 0 ≤ (t185.length : Int) then (if ((t185.length : Int) : Int).toNat ≤ 35184372088832 then (integer_divide.l0 k y182 t185 t188 (rd t188 (wrap64 ((t188.length : Int) - 1))) (([] : List Int)) (List.replicate ((t185.length : Int) : Int).toNat 0) (wrap64 ((t185.length : Int) - 1))) else (none)) else (none)) else (none)) else (none)))))) else (none)) else (none))))
theorem integer_divide.mono_l : ∀ k, (∀ y0 y1 y2 y3 y4 y5 y6, LeO (integer_divide.l0 k y0 y1 y2 y3 y4 y5 y6) (integer_divide.l0 (k + 1) y0 y1 y2 y3 y4 y5 y6)) ∧ (∀ y0 y1 y2 y3 y4 y5 y6 y7, LeO (integer_divide.j1 k y0 y1 y2 y3 y4 y5 y6 y7) (integer_divide.j1 (k + 1) y0 y1 y2 y3 y4 y5 y6 y7)) ∧ (∀ y0 y1 y2 y3 y4 y5 y6 y7 y8, LeO (integer_divide.j2 k y0 y1 y2 y3 y4 y5 y6 y7 y8) (integer_divide.j2 (k + 1) y0 y1 y2 y3 y4 y5 y6 y7 y8)) ∧ (∀ y0 y1 y2 y3 y4 y5 y6 y7 y8, LeO (integer_divide.l1 k y0 y1 y2 y3 y4 y5 y6 y7 y8) (integer_divide.l1 (k + 1) y0 y1 y2 y3 y4 y5 y6 y7 y8))
 | 0 => ⟨fun _ _ _ _ _ _ _ r h => by simp [integer_divide.l0] at h, fun _ _ _ _ _ _ _ _ r h => by simp [integer_divide.j1] at h, fun _ _ _ _ _ _ _ _ _ r h => by simp [integer_divide.j2] at h, fun _ _ _ _ _ _ _ _ _ r h => by simp [integer_divide.l1] at h⟩
 | k + 1 => by
  obtain ⟨ih0, ih1, ih2, ih3⟩ := integer_divide.mono_l k
  refine ⟨?_, ?_, ?_, ?_⟩
  all_goals (intros; first | unfold integer_divide.l0 | unfold integer_divide.j1 | unfold integer_divide.j2 | unfold integer_divide.l1)
  all_goals repeat' first
   | (with_reducible exact ih0 _ _ _ _ _ _ _)
   | (with_reducible exact ih1 _ _ _ _ _ _ _ _)
   | (with_reducible exact ih2 _ _ _ _ _ _ _ _ _)
   | (with_reducible exact ih3 _ _ _ _ _ _ _ _ _)
   | (with_reducible exact integer_compare.mono _ _ _)
   | (with_reducible exact integer_minus.mono _ _ _)
   | (with_reducible exact integer_small.mono _ _ _)
   | (with_reducible exact integer_times.mono _ _ _)
   | (with_reducible exact integer_trimmed.mono _ _)
   | (with_reducible exact LeO.refl _)
   | (with_reducible exact LeO.none _)
   | (with_reducible refine LeO.ite ?_ ?_)
   | (with_reducible refine LeO.bind ?_ (fun _ => ?_))
   | exact ih0 _ _ _ _ _ _ _
   | exact ih1 _ _ _ _ _ _ _ _
   | exact ih2 _ _ _ _ _ _ _ _ _
   | exact ih3 _ _ _ _ _ _ _ _ _
   | exact integer_compare.mono _ _ _
   | exact integer_minus.mono _ _ _
   | exact integer_small.mono _ _ _
   | exact integer_times.mono _ _ _
   | exact integer_trimmed.mono _ _
   | exact LeO.none _
   | refine LeO.ite ?_ ?_
   | refine LeO.bind ?_ (fun _ => ?_)
theorem integer_divide.mono : ∀ a0 a1 k, LeO (integer_divide.f k a0 a1) (integer_divide.f (k + 1) a0 a1) := by
 intro a0 a1 k
 obtain ⟨ih0, ih1, ih2, ih3⟩ := integer_divide.mono_l k
 unfold integer_divide.f
 repeat' first
   | (with_reducible exact ih0 _ _ _ _ _ _ _)
   | (with_reducible exact ih1 _ _ _ _ _ _ _ _)
   | (with_reducible exact ih2 _ _ _ _ _ _ _ _ _)
   | (with_reducible exact ih3 _ _ _ _ _ _ _ _ _)
   | (with_reducible exact integer_compare.mono _ _ _)
   | (with_reducible exact integer_minus.mono _ _ _)
   | (with_reducible exact integer_small.mono _ _ _)
   | (with_reducible exact integer_times.mono _ _ _)
   | (with_reducible exact integer_trimmed.mono _ _)
   | (with_reducible exact LeO.refl _)
   | (with_reducible exact LeO.none _)
   | (with_reducible refine LeO.ite ?_ ?_)
   | (with_reducible refine LeO.bind ?_ (fun _ => ?_))
   | exact ih0 _ _ _ _ _ _ _
   | exact ih1 _ _ _ _ _ _ _ _
   | exact ih2 _ _ _ _ _ _ _ _ _
   | exact ih3 _ _ _ _ _ _ _ _ _
   | exact integer_compare.mono _ _ _
   | exact integer_minus.mono _ _ _
   | exact integer_small.mono _ _ _
   | exact integer_times.mono _ _ _
   | exact integer_trimmed.mono _ _
   | exact LeO.none _
   | refine LeO.ite ?_ ?_
   | refine LeO.bind ?_ (fun _ => ?_)
/-! ### integer_signed: function 38 -/
def integer_signed.f (a0 : Bool) (l1 : List Int) : Option (Bool × List Int) := if a0 = true then (some (decide ((l1.length : Int) > 0), l1)) else (some (false, l1))
/-! ### integer_plus: function 58 -/
mutual
def integer_plus.j0 : Nat → List Int → List Int → Option (List Int)
 | 0, _, _ => none
 | k + 1, x0, x1 => if 0 ≤ (wrap64 ((x0.length : Int) + 1)) then (if (wrap64 ((x0.length : Int) + 1) : Int).toNat ≤ 35184372088832 then ((some (List.replicate (wrap64 ((x0.length : Int) + 1) : Int).toNat 0 : List Int)).bind fun y233 => (if x0.length ≤ y233.length then ((some (x0 ++ y233.drop x0.length : List Int)).bind fun y236 => (integer_plus.l0 k x1 y236 0 (y236.length : Int) 0)) else (none))) else (none)) else (none)
def integer_plus.l0 : Nat → List Int → List Int → Int → Int → Int → Option (List Int)
 | 0, _, _, _, _, _ => none
 | k + 1, x1, x5, x6, x24, x25 => if x25 < x24 then (if 0 ≤ x25 then (if x25 < (x5.length : Int) then (if x25 < (x1.length : Int) then (integer_plus.l0 k x1 (x5.set (x25 : Int).toNat (Int.tmod (IntKind.u64.wrap ((IntKind.u64.wrap ((rd x5 x25) + x6)) + (rd x1 x25))) 1000000000)) (IntKind.u64.wrap (Int.tdiv (IntKind.u64.wrap ((IntKind.u64.wrap ((rd x5 x25) + x6)) + (rd x1 x25))) 1000000000)) x24 (wrap64 (x25 + 1))) else (integer_plus.l0 k x1 (x5.set (x25 : Int).toNat (Int.tmod (IntKind.u64.wrap ((rd x5 x25) + x6)) 1000000000)) (IntKind.u64.wrap (Int.tdiv (IntKind.u64.wrap ((rd x5 x25) + x6)) 1000000000)) x24 (wrap64 (x25 + 1)))) else (none)) else (none)) else ((integer_trimmed.f k x5).bind fun t241 => (some t241))
end
def integer_plus.f (k : Nat) (l0 : List Int) (l1 : List Int) : Option (List Int) := if (l0.length : Int) < (l1.length : Int) then (integer_plus.j0 k l1 l0) else (integer_plus.j0 k l0 l1)
theorem integer_plus.mono_l : ∀ k, (∀ y0 y1, LeO (integer_plus.j0 k y0 y1) (integer_plus.j0 (k + 1) y0 y1)) ∧ (∀ y0 y1 y2 y3 y4, LeO (integer_plus.l0 k y0 y1 y2 y3 y4) (integer_plus.l0 (k + 1) y0 y1 y2 y3 y4))
 | 0 => ⟨fun _ _ r h => by simp [integer_plus.j0] at h, fun _ _ _ _ _ r h => by simp [integer_plus.l0] at h⟩
 | k + 1 => by
  obtain ⟨ih0, ih1⟩ := integer_plus.mono_l k
  refine ⟨?_, ?_⟩
  all_goals (intros; first | unfold integer_plus.j0 | unfold integer_plus.l0)
  all_goals repeat' first
   | (with_reducible exact ih0 _ _)
   | (with_reducible exact ih1 _ _ _ _ _)
   | (with_reducible exact integer_trimmed.mono _ _)
   | (with_reducible exact LeO.refl _)
   | (with_reducible exact LeO.none _)
   | (with_reducible refine LeO.ite ?_ ?_)
   | (with_reducible refine LeO.bind ?_ (fun _ => ?_))
   | exact ih0 _ _
   | exact ih1 _ _ _ _ _
   | exact integer_trimmed.mono _ _
   | exact LeO.none _
   | refine LeO.ite ?_ ?_
   | refine LeO.bind ?_ (fun _ => ?_)
theorem integer_plus.mono : ∀ a0 a1 k, LeO (integer_plus.f k a0 a1) (integer_plus.f (k + 1) a0 a1) := by
 intro a0 a1 k
 obtain ⟨ih0, ih1⟩ := integer_plus.mono_l k
 unfold integer_plus.f
 repeat' first
   | (with_reducible exact ih0 _ _)
   | (with_reducible exact ih1 _ _ _ _ _)
   | (with_reducible exact integer_trimmed.mono _ _)
   | (with_reducible exact LeO.refl _)
   | (with_reducible exact LeO.none _)
   | (with_reducible refine LeO.ite ?_ ?_)
   | (with_reducible refine LeO.bind ?_ (fun _ => ?_))
   | exact ih0 _ _
   | exact ih1 _ _ _ _ _
   | exact integer_trimmed.mono _ _
   | exact LeO.none _
   | refine LeO.ite ?_ ?_
   | refine LeO.bind ?_ (fun _ => ?_)
/-! ### integer_add: function 39 -/
def integer_add.f (k : Nat) (a0_0 : Bool) (l0_1 : List Int) (a1_0 : Bool) (l1_1 : List Int) : Option (Bool × List Int) := if (a0_0 == a1_0) = true then ((integer_plus.f k l0_1 l1_1).bind fun t247 => ((integer_signed.f a0_0 t247).bind fun bt250 => (some (bt250.1, bt250.2)))) else ((integer_compare.f k l0_1 l1_1).bind fun t254 => (if t254 ≥ 0 then ((integer_minus.f k l0_1 l1_1).bind fun t255 => ((integer_signed.f a0_0 t255).bind fun bt258 => (some (bt258.1, bt258.2)))) else ((integer_minus.f k l1_1 l0_1).bind fun t262 => ((integer_signed.f a1_0 t262).bind fun bt265 => (some (bt265.1, bt265.2))))))
theorem integer_add.mono : ∀ a0 a1 a2 a3 k, LeO (integer_add.f k a0 a1 a2 a3) (integer_add.f (k + 1) a0 a1 a2 a3) := by
 intro a0 a1 a2 a3 k
 unfold integer_add.f
 repeat' first
   | (with_reducible exact integer_compare.mono _ _ _)
   | (with_reducible exact integer_minus.mono _ _ _)
   | (with_reducible exact integer_plus.mono _ _ _)
   | (with_reducible exact LeO.refl _)
   | (with_reducible exact LeO.none _)
   | (with_reducible refine LeO.ite ?_ ?_)
   | (with_reducible refine LeO.bind ?_ (fun _ => ?_))
   | exact integer_compare.mono _ _ _
   | exact integer_minus.mono _ _ _
   | exact integer_plus.mono _ _ _
   | exact LeO.none _
   | refine LeO.ite ?_ ?_
   | refine LeO.bind ?_ (fun _ => ?_)
def integer_add.T2 : Bool × List (List Nat × List Nat) := (true, [([], []), ([0], [0]), ([], []), ([2], [2]), ([], []), ([4], [4]), ([3, 5], [3, 5]), ([1, 6, 6], [1, 6]), ([7, 7, 0, 1, 2, 3, 4, 5, 6, 7], [7])])
def integer_add.B2 : List Nat := [0, 1, 0, 4, 0, 16, 60, 127, 255]
theorem integer_add.tab2 : rtab .any (opsOf Tryd.f39 2) = integer_add.T2 := by kernel_rfl
theorem integer_add.bits2 : waitsOk integer_add.T2.2 integer_add.B2 = true := by kernel_rfl
def integer_add.T4 : Bool × List (List Nat × List Nat) := (true, [([], []), ([0], [0]), ([], []), ([2], [2]), ([], []), ([4], [4]), ([3, 5], [3, 5]), ([1, 6, 6], [1, 6]), ([7, 7, 0, 1, 2, 3, 4, 5, 6, 7], [7])])
def integer_add.B4 : List Nat := [0, 1, 0, 4, 0, 16, 60, 127, 255]
theorem integer_add.tab4 : rtab .any (opsOf Tryd.f39 4) = integer_add.T4 := by kernel_rfl
theorem integer_add.bits4 : waitsOk integer_add.T4.2 integer_add.B4 = true := by kernel_rfl
def integer_add.T5 : Bool × List (List Nat × List Nat) := (true, [([], []), ([0], [0]), ([], []), ([2], [2]), ([], []), ([4], [4]), ([3, 5], [3, 5]), ([1, 6, 6], [1, 6]), ([7, 7, 0, 1, 2, 3, 4, 5, 6, 7], [7])])
def integer_add.B5 : List Nat := [0, 1, 0, 4, 0, 16, 60, 127, 255]
theorem integer_add.tab5 : rtab .any (opsOf Tryd.f39 5) = integer_add.T5 := by kernel_rfl
theorem integer_add.bits5 : waitsOk integer_add.T5.2 integer_add.B5 = true := by kernel_rfl
/-! ### integer_number_text: function 40 -/
/-- A number's text: the greatest limb's digits, then nine digits a limb; at most 400. -/
def integer_number_text.f (a0 : Bool) (l : List Int) : Option (ByteArray × Int) :=
 if (l.all fun x => decide (0 ≤ x ∧ x < 1000000000)) = true ∧ l.length ≤ 1000000 then
  (if l = [] then some (⟨#[48]⟩, 0)
     else if 400 < (textL l).length then some (⟨#[]⟩, 5)
     else if a0 = true then some (⟨(45 :: textL l).toArray⟩, 0) else some (⟨(textL l).toArray⟩, 0))
 else none
/-! ### integer_DivMod: function 13 -/
def integer_DivMod.j0 : Nat → Bool → Bool → List Int → Bool → List Int → Bool → List Int → Option (ByteArray × ByteArray × Int)
 | 0, _, _, _, _, _, _, _ => none
 | k + 1, x55, x280000, x280001, x295000, x295001, x296000, x296001 => if x55 = true then ((integer_add.f k x295000 x295001 true (([1] : List Int))).bind fun bt299 => ((integer_add.f k x296000 x296001 x280000 x280001).bind fun bt303 => ((integer_number_text.f bt299.1 bt299.2).bind fun bt307 => ((integer_number_text.f bt303.1 bt303.2).bind fun bt309 => (some (bt307.1, bt309.1, 0)))))) else ((integer_number_text.f x295000 x295001).bind fun bt311 => ((integer_number_text.f x296000 x296001).bind fun bt313 => (some (bt311.1, bt313.1, 0))))
def integer_DivMod.f (k : Nat) (a0 : ByteArray) (a1 : ByteArray) : Option (ByteArray × ByteArray × Int) := (integer_both.f k a0 a1).bind fun t269 => (if t269 = true then (if a1.toList = ([48] : List UInt8) then (some ((⟨#[]⟩ : ByteArray), (⟨#[]⟩ : ByteArray), 24)) else ((integer_read.f k a0).bind fun bt270 => ((integer_read.f k a1).bind fun bt274 => ((integer_divide.f k bt270.2 bt274.2).bind fun bt280 => ((integer_signed.f (bt270.1 != bt274.1) bt280.1).bind fun bt286 => ((integer_signed.f bt270.1 bt280.2).bind fun bt290 => (if (bt280.2.length : Int) > 0 then (integer_DivMod.j0 k (bt270.1 != bt274.1) bt274.1 bt274.2 bt286.1 bt286.2 bt290.1 bt290.2) else (integer_DivMod.j0 k false bt274.1 bt274.2 bt286.1 bt286.2 bt290.1 bt290.2)))))))) else (some ((⟨#[]⟩ : ByteArray), (⟨#[]⟩ : ByteArray), 3)))
theorem integer_DivMod.mono_l : ∀ k, (∀ y0 y1 y2 y3 y4 y5 y6, LeO (integer_DivMod.j0 k y0 y1 y2 y3 y4 y5 y6) (integer_DivMod.j0 (k + 1) y0 y1 y2 y3 y4 y5 y6))
 | 0 => fun _ _ _ _ _ _ _ r h => by simp [integer_DivMod.j0] at h
 | k + 1 => by
  have ih0 := integer_DivMod.mono_l k
  ·intro y0 y1 y2 y3 y4 y5 y6
   unfold integer_DivMod.j0
   repeat' first
   | (with_reducible exact ih0 _ _ _ _ _ _ _)
   | (with_reducible exact integer_add.mono _ _ _ _ _)
   | (with_reducible exact integer_both.mono _ _ _)
   | (with_reducible exact integer_divide.mono _ _ _)
   | (with_reducible exact integer_read.mono _ _)
   | (with_reducible exact LeO.refl _)
   | (with_reducible exact LeO.none _)
   | (with_reducible refine LeO.ite ?_ ?_)
   | (with_reducible refine LeO.bind ?_ (fun _ => ?_))
   | exact ih0 _ _ _ _ _ _ _
   | exact integer_add.mono _ _ _ _ _
   | exact integer_both.mono _ _ _
   | exact integer_divide.mono _ _ _
   | exact integer_read.mono _ _
   | exact LeO.none _
   | refine LeO.ite ?_ ?_
   | refine LeO.bind ?_ (fun _ => ?_)
theorem integer_DivMod.mono : ∀ a0 a1 k, LeO (integer_DivMod.f k a0 a1) (integer_DivMod.f (k + 1) a0 a1) := by
 intro a0 a1 k
 have ih0 := integer_DivMod.mono_l k
 unfold integer_DivMod.f
 repeat' first
   | (with_reducible exact ih0 _ _ _ _ _ _ _)
   | (with_reducible exact integer_add.mono _ _ _ _ _)
   | (with_reducible exact integer_both.mono _ _ _)
   | (with_reducible exact integer_divide.mono _ _ _)
   | (with_reducible exact integer_read.mono _ _)
   | (with_reducible exact LeO.refl _)
   | (with_reducible exact LeO.none _)
   | (with_reducible refine LeO.ite ?_ ?_)
   | (with_reducible refine LeO.bind ?_ (fun _ => ?_))
   | exact ih0 _ _ _ _ _ _ _
   | exact integer_add.mono _ _ _ _ _
   | exact integer_both.mono _ _ _
   | exact integer_divide.mono _ _ _
   | exact integer_read.mono _ _
   | exact LeO.none _
   | refine LeO.ite ?_ ?_
   | refine LeO.bind ?_ (fun _ => ?_)
def integer_DivMod.T7 : Bool × List (List Nat × List Nat) := (true, [([], []), ([0], [0]), ([], []), ([2], [2]), ([1, 3], [1, 3]), ([], []), ([4, 5], [4, 5]), ([], []), ([7], [7]), ([], []), ([8, 9, 6], [8, 9]), ([], []), ([], []), ([11, 6, 10, 0, 1, 2, 3, 4, 5, 6, 11, 12], [6, 11]), ([12, 10, 13, 0, 1, 2, 3, 4, 5, 6, 7, 8, 9, 10, 11, 12, 13], [10, 12])])
def integer_DivMod.B7 : List Nat := [0, 1, 0, 4, 15, 0, 63, 0, 128, 0, 1023, 0, 0, 8191, 16383]
theorem integer_DivMod.tab7 : rtab .any (opsOf Tryd.f13 7) = integer_DivMod.T7 := by kernel_rfl
theorem integer_DivMod.bits7 : waitsOk integer_DivMod.T7.2 integer_DivMod.B7 = true := by kernel_rfl
/-! ### integer_Gcd: function 14 -/
def integer_Gcd.l0 : Nat → List Int → List Int → Option (ByteArray × Int)
 | 0, _, _ => none
 | k + 1, x6, x7 => if (x7.length : Int) > 0 then ((integer_divide.f k x6 x7).bind fun bt324 => (integer_Gcd.l0 k x7 bt324.2)) else ((integer_number_text.f false x6).bind fun bt330 => (some (bt330.1, bt330.2)))
def integer_Gcd.f (k : Nat) (a0 : ByteArray) (a1 : ByteArray) : Option (ByteArray × Int) := (integer_both.f k a0 a1).bind fun t315 => (if t315 = true then ((integer_read.f k a0).bind fun bt316 => ((integer_read.f k a1).bind fun bt320 => (integer_Gcd.l0 k bt316.2 bt320.2))) else (some ((⟨#[]⟩ : ByteArray), 3)))
theorem integer_Gcd.mono_l : ∀ k, (∀ y0 y1, LeO (integer_Gcd.l0 k y0 y1) (integer_Gcd.l0 (k + 1) y0 y1))
 | 0 => fun _ _ r h => by simp [integer_Gcd.l0] at h
 | k + 1 => by
  have ih0 := integer_Gcd.mono_l k
  ·intro y0 y1
   unfold integer_Gcd.l0
   repeat' first
   | (with_reducible exact ih0 _ _)
   | (with_reducible exact integer_both.mono _ _ _)
   | (with_reducible exact integer_divide.mono _ _ _)
   | (with_reducible exact integer_read.mono _ _)
   | (with_reducible exact LeO.refl _)
   | (with_reducible exact LeO.none _)
   | (with_reducible refine LeO.ite ?_ ?_)
   | (with_reducible refine LeO.bind ?_ (fun _ => ?_))
   | exact ih0 _ _
   | exact integer_both.mono _ _ _
   | exact integer_divide.mono _ _ _
   | exact integer_read.mono _ _
   | exact LeO.none _
   | refine LeO.ite ?_ ?_
   | refine LeO.bind ?_ (fun _ => ?_)
theorem integer_Gcd.mono : ∀ a0 a1 k, LeO (integer_Gcd.f k a0 a1) (integer_Gcd.f (k + 1) a0 a1) := by
 intro a0 a1 k
 have ih0 := integer_Gcd.mono_l k
 unfold integer_Gcd.f
 repeat' first
   | (with_reducible exact ih0 _ _)
   | (with_reducible exact integer_both.mono _ _ _)
   | (with_reducible exact integer_divide.mono _ _ _)
   | (with_reducible exact integer_read.mono _ _)
   | (with_reducible exact LeO.refl _)
   | (with_reducible exact LeO.none _)
   | (with_reducible refine LeO.ite ?_ ?_)
   | (with_reducible refine LeO.bind ?_ (fun _ => ?_))
   | exact ih0 _ _
   | exact integer_both.mono _ _ _
   | exact integer_divide.mono _ _ _
   | exact integer_read.mono _ _
   | exact LeO.none _
   | refine LeO.ite ?_ ?_
   | refine LeO.bind ?_ (fun _ => ?_)
/-! ### strconv_FormatInt: function 51 -/
/-- base 10: the numeral. -/
def strconv_FormatInt.f (a0 a1 : Int) : Option ByteArray :=
 if a1 = 10 ∧ -9223372036854775808 ≤ a0 ∧ a0 ≤ 9223372036854775807 then some ⟨(Lib.itoa a0).toArray⟩ else none
/-! ### integer_Of: function 29 -/
def integer_Of.f (a0 : Int) : Option (ByteArray) := (strconv_FormatInt.f a0 10).bind fun t332 => (some t332)
/-! ### integer_near: function 46 -/
def integer_near.f (a0 : ByteArray) (a1 : ByteArray) (a2 : Int) : Option (Bool) := if (a0.size : Int) ≤ a2 then (some (decide ((a1.size : Int) ≤ a2))) else (some false)
/-! ### strconv_ParseInt: function 52 -/
/-- base 10, 64 bits: the number, and whether there is an error; of a text that is a number. -/
def strconv_ParseInt.f (a0 : ByteArray) (a1 a2 : Int) : Option (Int × Option Int) :=
 if a1 = 10 ∧ a2 = 64 ∧ a0.size ≤ 140737488351232 then
  (match Lib.parseIntB 64 a0.data.toList with
   | .ok v => some (v, none)
   | .range => some (Lib.intSat 64 a0.data.toList, some 1)
   | _ => none)
 else none
/-! ### integer_machine: function 47 -/
def integer_machine.f (a0 : ByteArray) : Option (Int) := (strconv_ParseInt.f a0 10 64).bind fun bt333 => (some bt333.1)
/-! ### integer_Add: function 21 -/
def integer_Add.f (k : Nat) (a0 : ByteArray) (a1 : ByteArray) : Option (ByteArray × Int) := (integer_both.f k a0 a1).bind fun t335 => (if t335 = true then ((integer_near.f a0 a1 18).bind fun t336 => (if t336 = true then ((integer_machine.f a0).bind fun t337 => ((integer_machine.f a1).bind fun t338 => ((integer_Of.f (wrap64 (t337 + t338))).bind fun t339 => (some (t339, 0))))) else ((integer_read.f k a0).bind fun bt340 => ((integer_read.f k a1).bind fun bt344 => ((integer_add.f k bt340.1 bt340.2 bt344.1 bt344.2).bind fun bt348 => ((integer_number_text.f bt348.1 bt348.2).bind fun bt352 => (some (bt352.1, bt352.2)))))))) else (some ((⟨#[]⟩ : ByteArray), 3)))
theorem integer_Add.mono : ∀ a0 a1 k, LeO (integer_Add.f k a0 a1) (integer_Add.f (k + 1) a0 a1) := by
 intro a0 a1 k
 unfold integer_Add.f
 repeat' first
   | (with_reducible exact integer_add.mono _ _ _ _ _)
   | (with_reducible exact integer_both.mono _ _ _)
   | (with_reducible exact integer_read.mono _ _)
   | (with_reducible exact LeO.refl _)
   | (with_reducible exact LeO.none _)
   | (with_reducible refine LeO.ite ?_ ?_)
   | (with_reducible refine LeO.bind ?_ (fun _ => ?_))
   | exact integer_add.mono _ _ _ _ _
   | exact integer_both.mono _ _ _
   | exact integer_read.mono _ _
   | exact LeO.none _
   | refine LeO.ite ?_ ?_
   | refine LeO.bind ?_ (fun _ => ?_)
/-! ### cellarerlaw02_awake: function 11 -/
def cellarerlaw02_awake.f (k : Nat)  : Option (Bool) := (integer_Add.f k (⟨#[57, 57, 57]⟩ : ByteArray) (⟨#[45, 49, 48, 48, 48]⟩ : ByteArray)).bind fun bt354 => ((integer_DivMod.f k (⟨#[45, 55]⟩ : ByteArray) (⟨#[50]⟩ : ByteArray)).bind fun bt356 => ((integer_DivMod.f k (⟨#[49]⟩ : ByteArray) (⟨#[48]⟩ : ByteArray)).bind fun bt359 => ((integer_Gcd.f k (⟨#[45, 49, 50]⟩ : ByteArray) (⟨#[49, 56]⟩ : ByteArray)).bind fun bt362 => (if bt354.2 = 0 then (if bt354.1.toList = ([45, 49] : List UInt8) then (if bt356.2.2 = 0 then (if bt356.1.toList = ([45, 52] : List UInt8) then (if bt356.2.1.toList = ([49] : List UInt8) then (if bt359.2.2 = 24 then (if bt362.2 = 0 then (if bt362.1.toList = ([54] : List UInt8) then ((integer_Valid.f k (⟨#[45, 48]⟩ : ByteArray)).bind fun t364 => (if t364 = true then (some false) else ((integer_Of.f (-5)).bind fun t365 => (some (t365.toList == ([45, 53] : List UInt8)))))) else (some false)) else (some false)) else (some false)) else (some false)) else (some false)) else (some false)) else (some false)) else (some false)))))
theorem cellarerlaw02_awake.mono : ∀ k, LeO (cellarerlaw02_awake.f k ) (cellarerlaw02_awake.f (k + 1) ) := by
 intro  k
 unfold cellarerlaw02_awake.f
 repeat' first
   | (with_reducible exact integer_Add.mono _ _ _)
   | (with_reducible exact integer_DivMod.mono _ _ _)
   | (with_reducible exact integer_Gcd.mono _ _ _)
   | (with_reducible exact integer_Valid.mono _ _)
   | (with_reducible exact LeO.refl _)
   | (with_reducible exact LeO.none _)
   | (with_reducible refine LeO.ite ?_ ?_)
   | (with_reducible refine LeO.bind ?_ (fun _ => ?_))
   | exact integer_Add.mono _ _ _
   | exact integer_DivMod.mono _ _ _
   | exact integer_Gcd.mono _ _ _
   | exact integer_Valid.mono _ _
   | exact LeO.none _
   | refine LeO.ite ?_ ?_
   | refine LeO.bind ?_ (fun _ => ?_)
/-! ### cellarerlaw02_long: function 12 -/
def cellarerlaw02_long.f (a0 : ByteArray) (a1 : ByteArray) : Option (Bool) := if (a0.size : Int) > 420 then (some true) else (some (decide ((a1.size : Int) > 420)))
/-! ### cellarerref02_Valid: function 15 -/
mutual
def cellarerref02_Valid.j0 : Nat → ByteArray → Bool → Option (Bool)
 | 0, _, _ => none
 | k + 1, x0, x13 => if x13 = true then (if 1 ≤ (x0.size : Int) then (cellarerref02_Valid.j1 k (x0.extract 1 x0.size)) else (none)) else (cellarerref02_Valid.j1 k x0)
def cellarerref02_Valid.j1 : Nat → ByteArray → Option (Bool)
 | 0, _ => none
 | k + 1, x0 => if (x0.size : Int) < 1 then (cellarerref02_Valid.j2 k x0 true) else (if (x0.size : Int) > 400 then (cellarerref02_Valid.j2 k x0 true) else (if 0 < (x0.size : Int) then (cellarerref02_Valid.j2 k x0 ((bt x0 0) == 48)) else (none)))
def cellarerref02_Valid.j2 : Nat → ByteArray → Bool → Option (Bool)
 | 0, _, _ => none
 | k + 1, x0, x28 => if x28 = true then (some false) else (cellarerref02_Valid.l0 k x0 0)
def cellarerref02_Valid.l0 : Nat → ByteArray → Int → Option (Bool)
 | 0, _, _ => none
 | k + 1, x0, x3 => if x3 < (x0.size : Int) then (if 0 ≤ x3 then (if (bt x0 x3) < 48 then (some false) else (if (bt x0 x3) > 57 then (some false) else (cellarerref02_Valid.l0 k x0 (wrap64 (x3 + 1))))) else (none)) else (some true)
end
def cellarerref02_Valid.f (k : Nat) (a0 : ByteArray) : Option (Bool) := if a0.toList = ([48] : List UInt8) then (some true) else (if (a0.size : Int) > 0 then (if 0 < (a0.size : Int) then (cellarerref02_Valid.j0 k a0 ((bt a0 0) == 45)) else (none)) else (cellarerref02_Valid.j0 k a0 false))
/-! ### cellarerref02_make0: function 41 -/
def cellarerref02_make0.l0 : Nat → Bool → List Int → Option (Bool × List Int)
 | 0, _, _ => none
 | k + 1, x0, x1 => if (x1.length : Int) > 0 then (if 0 < (x1.length : Int) then (if (rd x1 0) = 0 then (if 1 ≤ (x1.length : Int) then (cellarerref02_make0.l0 k x0 (x1.drop 1)) else (none)) else (if (x1.length : Int) = 0 then (some (false, ([] : List Int))) else (some (x0, x1)))) else (none)) else (if (x1.length : Int) = 0 then (some (false, ([] : List Int))) else (some (x0, x1)))
def cellarerref02_make0.f (k : Nat) (a0 : Bool) (l1 : List Int) : Option (Bool × List Int) := cellarerref02_make0.l0 k a0 l1
theorem cellarerref02_make0.mono_l : ∀ k, (∀ y0 y1, LeO (cellarerref02_make0.l0 k y0 y1) (cellarerref02_make0.l0 (k + 1) y0 y1))
 | 0 => fun _ _ r h => by simp [cellarerref02_make0.l0] at h
 | k + 1 => by
  have ih0 := cellarerref02_make0.mono_l k
  ·intro y0 y1
   unfold cellarerref02_make0.l0
   repeat' first
   | (with_reducible exact ih0 _ _)
   | (with_reducible exact LeO.refl _)
   | (with_reducible exact LeO.none _)
   | (with_reducible refine LeO.ite ?_ ?_)
   | (with_reducible refine LeO.bind ?_ (fun _ => ?_))
   | exact ih0 _ _
   | exact LeO.none _
   | refine LeO.ite ?_ ?_
   | refine LeO.bind ?_ (fun _ => ?_)
theorem cellarerref02_make0.mono : ∀ a0 a1 k, LeO (cellarerref02_make0.f k a0 a1) (cellarerref02_make0.f (k + 1) a0 a1) := by
 intro a0 a1 k
 have ih0 := cellarerref02_make0.mono_l k
 unfold cellarerref02_make0.f
 repeat' first
   | (with_reducible exact ih0 _ _)
   | (with_reducible exact LeO.refl _)
   | (with_reducible exact LeO.none _)
   | (with_reducible refine LeO.ite ?_ ?_)
   | (with_reducible refine LeO.bind ?_ (fun _ => ?_))
   | exact ih0 _ _
   | exact LeO.none _
   | refine LeO.ite ?_ ?_
   | refine LeO.bind ?_ (fun _ => ?_)
/-! ### cellarerref02_Of: function 16 -/
def cellarerref02_Of.l0 : Nat → ByteArray → Bool → List Int → Int → Option (Bool × List Int)
 | 0, _, _, _, _ => none
 | k + 1, x0, x3, x4, x5 => if x5 < (x0.size : Int) then (if 0 ≤ x5 then (if (bt x0 x5) = 45 then (cellarerref02_Of.l0 k x0 true x4 (wrap64 (x5 + 1))) else (if x4.length < 17592186044416 then (cellarerref02_Of.l0 k x0 x3 (x4 ++ [((bt x0 x5) - 48) % 256]) (wrap64 (x5 + 1))) else (none))) else (none)) else ((cellarerref02_make0.f k x3 x4).bind fun bt377 => (some (bt377.1, bt377.2)))
def cellarerref02_Of.f (k : Nat) (a0 : ByteArray) : Option (Bool × List Int) := cellarerref02_Of.l0 k a0 false ([] : List Int) 0
/-! ### cellarerref02_Text: function 20 -/
mutual
def cellarerref02_Text.j0 : Nat → ByteArray → Bool → List Int → Option (ByteArray)
 | 0, _, _, _ => none
 | k + 1, x3, x382000, x382001 => cellarerref02_Text.l0 k x3 0 x382000 x382001
def cellarerref02_Text.l0 : Nat → ByteArray → Int → Bool → List Int → Option (ByteArray)
 | 0, _, _, _, _ => none
 | k + 1, x3, x4, x382000, x382001 => if x4 < (x382001.length : Int) then (if 0 ≤ x4 then (if 0 ≤ (rd x382001 x4) then (if (rd x382001 x4) ≤ (wrap64 ((rd x382001 x4) + 1)) then (if (wrap64 ((rd x382001 x4) + 1)) ≤ 10 then (if x3.size + ((⟨#[48, 49, 50, 51, 52, 53, 54, 55, 56, 57]⟩ : ByteArray).extract ((rd x382001 x4) : Int).toNat ((wrap64 ((rd x382001 x4) + 1)) : Int).toNat).size ≤ 9223372036854775807 then (cellarerref02_Text.l0 k (x3 ++ ((⟨#[48, 49, 50, 51, 52, 53, 54, 55, 56, 57]⟩ : ByteArray).extract ((rd x382001 x4) : Int).toNat ((wrap64 ((rd x382001 x4) + 1)) : Int).toNat)) (wrap64 (x4 + 1)) x382000 x382001) else (none)) else (none)) else (none)) else (none)) else (none)) else (some x3)
end
def cellarerref02_Text.f (k : Nat) (a0_0 : Bool) (l0_1 : List Int) : Option (ByteArray) := if (l0_1.length : Int) = 0 then (some (⟨#[48]⟩ : ByteArray)) else (if a0_0 = true then (cellarerref02_Text.j0 k (⟨#[45]⟩ : ByteArray) a0_0 l0_1) else (cellarerref02_Text.j0 k (⟨#[]⟩ : ByteArray) a0_0 l0_1))
/-! ### cellarerref02_Long: function 42 -/
def cellarerref02_Long.f (a0_0 : Bool) (l0_1 : List Int) : Option (Bool) := some (decide ((l0_1.length : Int) > 400))
/-! ### cellarerlaw02_agree: function 17 -/
def cellarerlaw02_agree.f (k : Nat) (a0 : ByteArray) (a1 : Int) (a2_0 : Bool) (l2_1 : List Int) : Option (Bool) := (cellarerref02_Long.f a2_0 l2_1).bind fun t386 => (if t386 = true then (if a0.toList = ([] : List UInt8) then (some (a1 == 5)) else (some false)) else ((cellarerref02_Text.f k a2_0 l2_1).bind fun t387 => (if a0.toList = t387.toList then (some (a1 == 0)) else (some false))))
/-! ### integer_opposite: function 48 -/
/-! ### integer_Sub: function 22 -/
/-! ### cellarerref02_cmp: function 43 -/
def cellarerref02_cmp.l0 : Nat → List Int → List Int → Int → Option (Int)
 | 0, _, _, _ => none
 | k + 1, x0, x1, x5 => if x5 < (x0.length : Int) then (if 0 ≤ x5 then (if x5 < (x1.length : Int) then (if (rd x0 x5) < (rd x1 x5) then (some (-1)) else (if (rd x0 x5) > (rd x1 x5) then (some 1) else (cellarerref02_cmp.l0 k x0 x1 (wrap64 (x5 + 1))))) else (none)) else (none)) else (some 0)
def cellarerref02_cmp.f (k : Nat) (l0 : List Int) (l1 : List Int) : Option (Int) := if (l0.length : Int) = (l1.length : Int) then (cellarerref02_cmp.l0 k l0 l1 0) else (if (l0.length : Int) < (l1.length : Int) then (some (-1)) else (some 1))
/-! ### cellarerref02_digit: function 64 -/
def cellarerref02_digit.f (l0 : List Int) (a1 : Int) : Option (Int) := if a1 ≥ (l0.length : Int) then (some 0) else (if 0 ≤ (wrap64 ((wrap64 ((l0.length : Int) - 1)) - a1)) then (if (wrap64 ((wrap64 ((l0.length : Int) - 1)) - a1)) < (l0.length : Int) then (some (rd l0 (wrap64 ((wrap64 ((l0.length : Int) - 1)) - a1)))) else (none)) else (none))
/-! ### cellarerref02_plus: function 44 -/
mutual
def cellarerref02_plus.l0 : Nat → List Int → List Int → Int → List Int → Int → Int → Option (List Int)
 | 0, _, _, _, _, _, _ => none
 | k + 1, x0, x1, x2, x7, x8, x9 => if x9 < (x0.length : Int) then (cellarerref02_plus.j1 k x0 x1 x2 x7 x8 x9 true) else (if x9 < (x1.length : Int) then (cellarerref02_plus.j1 k x0 x1 x2 x7 x8 x9 true) else (cellarerref02_plus.j1 k x0 x1 x2 x7 x8 x9 (x8 != 0)))
def cellarerref02_plus.j1 : Nat → List Int → List Int → Int → List Int → Int → Int → Bool → Option (List Int)
 | 0, _, _, _, _, _, _, _ => none
 | k + 1, x0, x1, x2, x7, x8, x9, x24 => if x24 = true then ((cellarerref02_digit.f x0 x9).bind fun t422 => ((cellarerref02_digit.f x1 x9).bind fun t423 => (if (wrap64 ((wrap64 (t422 + (wrap64 (x2 * t423)))) + x8)) < 0 then (if (wrap64 ((wrap64 ((wrap64 (t422 + (wrap64 (x2 * t423)))) + x8)) + 10)) > 9 then ((some (([wrap64 ((wrap64 ((wrap64 ((wrap64 (t422 + (wrap64 (x2 * t423)))) + x8)) + 10)) - 10)] : List Int) : List Int)).bind fun y424 => (if y424.length + x7.length < 17592186044416 then (cellarerref02_plus.l0 k x0 x1 x2 (y424 ++ x7) 1 (wrap64 (x9 + 1))) else (none))) else ((some (([wrap64 ((wrap64 ((wrap64 (t422 + (wrap64 (x2 * t423)))) + x8)) + 10)] : List Int) : List Int)).bind fun y430 => (if y430.length + x7.length < 17592186044416 then (cellarerref02_plus.l0 k x0 x1 x2 (y430 ++ x7) (-1) (wrap64 (x9 + 1))) else (none)))) else (if (wrap64 ((wrap64 (t422 + (wrap64 (x2 * t423)))) + x8)) > 9 then ((some (([wrap64 ((wrap64 ((wrap64 (t422 + (wrap64 (x2 * t423)))) + x8)) - 10)] : List Int) : List Int)).bind fun y436 => (if y436.length + x7.length < 17592186044416 then (cellarerref02_plus.l0 k x0 x1 x2 (y436 ++ x7) 1 (wrap64 (x9 + 1))) else (none))) else ((some (([wrap64 ((wrap64 (t422 + (wrap64 (x2 * t423)))) + x8)] : List Int) : List Int)).bind fun y442 => (if y442.length + x7.length < 17592186044416 then (cellarerref02_plus.l0 k x0 x1 x2 (y442 ++ x7) 0 (wrap64 (x9 + 1))) else (none))))))) else (some x7)
end
def cellarerref02_plus.f (k : Nat) (l0 : List Int) (l1 : List Int) (a2 : Int) : Option (List Int) := cellarerref02_plus.l0 k l0 l1 a2 ([] : List Int) 0 0
/-! ### cellarerref02_Add: function 24 -/
def cellarerref02_Add.f (k : Nat) (a0_0 : Bool) (l0_1 : List Int) (a1_0 : Bool) (l1_1 : List Int) : Option (Bool × List Int) := if (a0_0 == a1_0) = true then ((cellarerref02_plus.f k l0_1 l1_1 1).bind fun t451 => ((cellarerref02_make0.f k a0_0 t451).bind fun bt454 => (some (bt454.1, bt454.2)))) else ((cellarerref02_cmp.f k l0_1 l1_1).bind fun t458 => (if t458 < 0 then ((cellarerref02_plus.f k l1_1 l0_1 (-1)).bind fun t459 => ((cellarerref02_make0.f k a1_0 t459).bind fun bt462 => (some (bt462.1, bt462.2)))) else ((cellarerref02_plus.f k l0_1 l1_1 (-1)).bind fun t466 => ((cellarerref02_make0.f k a0_0 t466).bind fun bt469 => (some (bt469.1, bt469.2))))))
def cellarerref02_Add.T2 : Bool × List (List Nat × List Nat) := (true, [([], []), ([0], [0]), ([], []), ([2], [2]), ([], []), ([4], [4]), ([3, 5], [3, 5]), ([1, 6, 6], [1, 6]), ([7, 7, 0, 1, 2, 3, 4, 5, 6, 7], [7])])
def cellarerref02_Add.B2 : List Nat := [0, 1, 0, 4, 0, 16, 60, 127, 255]
theorem cellarerref02_Add.tab2 : rtab .any (opsOf Tryd.f24 2) = cellarerref02_Add.T2 := by kernel_rfl
theorem cellarerref02_Add.bits2 : waitsOk cellarerref02_Add.T2.2 cellarerref02_Add.B2 = true := by kernel_rfl
def cellarerref02_Add.T4 : Bool × List (List Nat × List Nat) := (true, [([], []), ([0], [0]), ([], []), ([2], [2]), ([], []), ([4], [4]), ([3, 5], [3, 5]), ([1, 6, 6], [1, 6]), ([7, 7, 0, 1, 2, 3, 4, 5, 6, 7], [7])])
def cellarerref02_Add.B4 : List Nat := [0, 1, 0, 4, 0, 16, 60, 127, 255]
theorem cellarerref02_Add.tab4 : rtab .any (opsOf Tryd.f24 4) = cellarerref02_Add.T4 := by kernel_rfl
theorem cellarerref02_Add.bits4 : waitsOk cellarerref02_Add.T4.2 cellarerref02_Add.B4 = true := by kernel_rfl
def cellarerref02_Add.T5 : Bool × List (List Nat × List Nat) := (true, [([], []), ([0], [0]), ([], []), ([2], [2]), ([], []), ([4], [4]), ([3, 5], [3, 5]), ([1, 6, 6], [1, 6]), ([7, 7, 0, 1, 2, 3, 4, 5, 6, 7], [7])])
def cellarerref02_Add.B5 : List Nat := [0, 1, 0, 4, 0, 16, 60, 127, 255]
theorem cellarerref02_Add.tab5 : rtab .any (opsOf Tryd.f24 5) = cellarerref02_Add.T5 := by kernel_rfl
theorem cellarerref02_Add.bits5 : waitsOk cellarerref02_Add.T5.2 cellarerref02_Add.B5 = true := by kernel_rfl
/-! ### cellarerref02_Neg: function 33 -/
def cellarerref02_Neg.f (k : Nat) (a0_0 : Bool) (l0_1 : List Int) : Option (Bool × List Int) := (cellarerref02_make0.f k (!a0_0) l0_1).bind fun bt475 => (some (bt475.1, bt475.2))
/-! ### cellarerref02_Sub: function 25 -/
def cellarerref02_Sub.f (k : Nat) (a0_0 : Bool) (l0_1 : List Int) (a1_0 : Bool) (l1_1 : List Int) : Option (Bool × List Int) := (cellarerref02_Neg.f k a1_0 l1_1).bind fun bt482 => ((cellarerref02_Add.f k a0_0 l0_1 bt482.1 bt482.2).bind fun bt486 => (some (bt486.1, bt486.2)))
/-! ### cellarerlaw02_IntegerAdds: function 4 -/
/-! ### integer_Mul: function 26 -/
/-! ### cellarerref02_Mul: function 27 -/
mutual
def cellarerref02_Mul.l0 : Nat → List Int → Int → Bool → List Int → Bool → List Int → Option (Bool × List Int)
 | 0, _, _, _, _, _, _ => none
 | k + 1, x5, x6, x547000, x547001, x548000, x548001 => if x6 ≥ 0 then (cellarerref02_Mul.l1 k x5 x6 (wrap64 ((x548001.length : Int) - 1)) x547000 x547001 x548000 x548001) else ((cellarerref02_make0.f k (x547000 != x548000) x5).bind fun bt552 => (some (bt552.1, bt552.2)))
def cellarerref02_Mul.l1 : Nat → List Int → Int → Int → Bool → List Int → Bool → List Int → Option (Bool × List Int)
 | 0, _, _, _, _, _, _, _ => none
 | k + 1, x5, x6, x7, x547000, x547001, x548000, x548001 => if x7 ≥ 0 then (if 0 ≤ (wrap64 ((wrap64 (x6 + x7)) + 1)) then (if (wrap64 ((wrap64 (x6 + x7)) + 1)) < (x5.length : Int) then (if 0 ≤ x6 then (if x6 < (x547001.length : Int) then (if 0 ≤ x7 then (if x7 < (x548001.length : Int) then (cellarerref02_Mul.l2 k (x5.set ((wrap64 ((wrap64 (x6 + x7)) + 1)) : Int).toNat (Int.tmod (wrap64 ((rd x5 (wrap64 ((wrap64 (x6 + x7)) + 1))) + (wrap64 ((rd x547001 x6) * (rd x548001 x7))))) 10)) x6 x7 (wrap64 ((wrap64 (x6 + x7)) + 1)) (wrap64 (Int.tdiv (wrap64 ((rd x5 (wrap64 ((wrap64 (x6 + x7)) + 1))) + (wrap64 ((rd x547001 x6) * (rd x548001 x7))))) 10)) x547000 x547001 x548000 x548001) else (none)) else (none)) else (none)) else (none)) else (none)) else (none)) else (cellarerref02_Mul.l0 k x5 (wrap64 (x6 - 1)) x547000 x547001 x548000 x548001)
def cellarerref02_Mul.l2 : Nat → List Int → Int → Int → Int → Int → Bool → List Int → Bool → List Int → Option (Bool × List Int)
 | 0, _, _, _, _, _, _, _, _, _ => none
 | k + 1, x5, x6, x7, x8, x9, x547000, x547001, x548000, x548001 => if x9 > 0 then (if 0 ≤ (wrap64 (x8 - 1)) then (if (wrap64 (x8 - 1)) < (x5.length : Int) then (cellarerref02_Mul.l2 k (x5.set ((wrap64 (x8 - 1)) : Int).toNat (Int.tmod (wrap64 (x9 + (rd x5 (wrap64 (x8 - 1))))) 10)) x6 x7 (wrap64 (x8 - 1)) (wrap64 (Int.tdiv (wrap64 (x9 + (rd x5 (wrap64 (x8 - 1))))) 10)) x547000 x547001 x548000 x548001) else (none)) else (none)) else (cellarerref02_Mul.l1 k x5 x6 (wrap64 (x7 - 1)) x547000 x547001 x548000 x548001)
end
def cellarerref02_Mul.f (k : Nat) (a0_0 : Bool) (l0_1 : List Int) (a1_0 : Bool) (l1_1 : List Int) : Option (Bool × List Int) := if 0 ≤ (wrap64 ((l0_1.length : Int) + (l1_1.length : Int))) then (if (wrap64 ((l0_1.length : Int) + (l1_1.length : Int)) : Int).toNat ≤ 35184372088832 then (cellarerref02_Mul.l0 k (List.replicate (wrap64 ((l0_1.length : Int) + (l1_1.length : Int)) : Int).toNat 0) (wrap64 ((l0_1.length : Int) - 1)) a0_0 l0_1 a1_0 l1_1) else (none)) else (none)
/-! ### cellarerlaw02_IntegerMultiplies: function 5 -/
/-! ### cellarerref02_From: function 45 -/
def cellarerref02_From.l0 : Nat → Int → Bool → List Int → Option (Bool × List Int)
 | 0, _, _, _ => none
 | k + 1, x0, x3, x4 => if x0 = 0 then ((cellarerref02_make0.f k x3 x4).bind fun bt582 => (some (bt582.1, bt582.2))) else (if (Int.tmod x0 10) < 0 then ((some (([wrap64 (-(Int.tmod x0 10))] : List Int) : List Int)).bind fun y586 => (if y586.length + x4.length < 17592186044416 then (cellarerref02_From.l0 k (wrap64 (Int.tdiv x0 10)) x3 (y586 ++ x4)) else (none))) else ((some (([Int.tmod x0 10] : List Int) : List Int)).bind fun y592 => (if y592.length + x4.length < 17592186044416 then (cellarerref02_From.l0 k (wrap64 (Int.tdiv x0 10)) x3 (y592 ++ x4)) else (none))))
def cellarerref02_From.f (k : Nat) (a0 : Int) : Option (Bool × List Int) := cellarerref02_From.l0 k a0 (decide (a0 < 0)) ([] : List Int)
theorem cellarerref02_From.mono_l : ∀ k, (∀ y0 y1 y2, LeO (cellarerref02_From.l0 k y0 y1 y2) (cellarerref02_From.l0 (k + 1) y0 y1 y2))
 | 0 => fun _ _ _ r h => by simp [cellarerref02_From.l0] at h
 | k + 1 => by
  have ih0 := cellarerref02_From.mono_l k
  ·intro y0 y1 y2
   unfold cellarerref02_From.l0
   repeat' first
   | (with_reducible exact ih0 _ _ _)
   | (with_reducible exact cellarerref02_make0.mono _ _ _)
   | (with_reducible exact LeO.refl _)
   | (with_reducible exact LeO.none _)
   | (with_reducible refine LeO.ite ?_ ?_)
   | (with_reducible refine LeO.bind ?_ (fun _ => ?_))
   | exact ih0 _ _ _
   | exact cellarerref02_make0.mono _ _ _
   | exact LeO.none _
   | refine LeO.ite ?_ ?_
   | refine LeO.bind ?_ (fun _ => ?_)
theorem cellarerref02_From.mono : ∀ a0 k, LeO (cellarerref02_From.f k a0) (cellarerref02_From.f (k + 1) a0) := by
 intro a0 k
 have ih0 := cellarerref02_From.mono_l k
 unfold cellarerref02_From.f
 repeat' first
   | (with_reducible exact ih0 _ _ _)
   | (with_reducible exact cellarerref02_make0.mono _ _ _)
   | (with_reducible exact LeO.refl _)
   | (with_reducible exact LeO.none _)
   | (with_reducible refine LeO.ite ?_ ?_)
   | (with_reducible refine LeO.bind ?_ (fun _ => ?_))
   | exact ih0 _ _ _
   | exact cellarerref02_make0.mono _ _ _
   | exact LeO.none _
   | refine LeO.ite ?_ ?_
   | refine LeO.bind ?_ (fun _ => ?_)
/-! ### cellarerref02_DivMod: function 19 -/
mutual
def cellarerref02_DivMod.l0 : Nat → List Int → Int → Bool → List Int → Bool → List Int → Bool → List Int → Option (Bool × List Int × Bool × List Int)
 | 0, _, _, _, _, _, _, _, _ => none
 | k + 1, x7, x8, x599000, x599001, x600000, x600001, x603000, x603001 => if x8 < (x599001.length : Int) then (if ([] : List Int).length + x603001.length < 17592186044416 then ((some (([] : List Int) ++ x603001 : List Int)).bind fun y603 => (if 0 ≤ x8 then (if y603.length < 17592186044416 then ((cellarerref02_make0.f k false (y603 ++ [rd x599001 x8])).bind fun bt610 => (cellarerref02_DivMod.l1 k x7 x8 0 x599000 x599001 x600000 x600001 bt610.1 bt610.2)) else (none)) else (none))) else (none)) else ((cellarerref02_make0.f k (x599000 != x600000) x7).bind fun bt625 => (if (x603001.length : Int) > 0 then (cellarerref02_DivMod.j2 k (x599000 != x600000) x599000 x599001 x600000 x600001 bt625.1 bt625.2) else (cellarerref02_DivMod.j2 k false x599000 x599001 x600000 x600001 bt625.1 bt625.2)))
def cellarerref02_DivMod.l1 : Nat → List Int → Int → Int → Bool → List Int → Bool → List Int → Bool → List Int → Option (Bool × List Int × Bool × List Int)
 | 0, _, _, _, _, _, _, _, _, _ => none
 | k + 1, x7, x8, x10, x599000, x599001, x600000, x600001, x603000, x603001 => (cellarerref02_cmp.f k x603001 x600001).bind fun t614 => (if t614 ≥ 0 then ((cellarerref02_plus.f k x603001 x600001 (-1)).bind fun t615 => ((cellarerref02_make0.f k false t615).bind fun bt618 => (cellarerref02_DivMod.l1 k x7 x8 (wrap64 (x10 + 1)) x599000 x599001 x600000 x600001 bt618.1 bt618.2))) else (if x7.length < 17592186044416 then (cellarerref02_DivMod.l0 k (x7 ++ [x10]) (wrap64 (x8 + 1)) x599000 x599001 x600000 x600001 x603000 x603001) else (none)))
def cellarerref02_DivMod.j2 : Nat → Bool → Bool → List Int → Bool → List Int → Bool → List Int → Option (Bool × List Int × Bool × List Int)
 | 0, _, _, _, _, _, _, _ => none
 | k + 1, x68, x599000, x599001, x600000, x600001, x630000, x630001 => if x68 = true then ((cellarerref02_From.f k 1).bind fun bt630 => ((cellarerref02_Sub.f k x630000 x630001 bt630.1 bt630.2).bind fun bt634 => ((cellarerref02_Mul.f k bt634.1 bt634.2 x600000 x600001).bind fun bt638 => ((cellarerref02_Sub.f k x599000 x599001 bt638.1 bt638.2).bind fun bt642 => (some (bt634.1, bt634.2, bt642.1, bt642.2)))))) else ((cellarerref02_Mul.f k x630000 x630001 x600000 x600001).bind fun bt646 => ((cellarerref02_Sub.f k x599000 x599001 bt646.1 bt646.2).bind fun bt650 => (some (x630000, x630001, bt650.1, bt650.2))))
end
def cellarerref02_DivMod.f (k : Nat) (a0_0 : Bool) (l0_1 : List Int) (a1_0 : Bool) (l1_1 : List Int) : Option (Bool × List Int × Bool × List Int) := cellarerref02_DivMod.l0 k ([] : List Int) 0 a0_0 l0_1 a1_0 l1_1 false ([] : List Int)
def cellarerref02_DivMod.T17 : Bool × List (List Nat × List Nat) := (true, [([], []), ([], []), ([], []), ([], []), ([2, 3], [2, 3]), ([1, 4, 4], [1, 4]), ([0, 5, 0], [0]), ([5, 6, 0, 1, 2, 3, 4, 5, 6], [5])])
def cellarerref02_DivMod.B17 : List Nat := [0, 0, 0, 0, 12, 30, 63, 127]
theorem cellarerref02_DivMod.tab17 : rtab .any (opsOf Tryd.f19 17) = cellarerref02_DivMod.T17 := by kernel_rfl
theorem cellarerref02_DivMod.bits17 : waitsOk cellarerref02_DivMod.T17.2 cellarerref02_DivMod.B17 = true := by kernel_rfl
/-! ### cellarerref02_Gcd: function 18 -/
def cellarerref02_Gcd.l0 : Nat → Bool → List Int → Bool → List Int → Option (Bool × List Int)
 | 0, _, _, _, _ => none
 | k + 1, x655000, x655001, x656000, x656001 => if (x656001.length : Int) > 0 then ((cellarerref02_DivMod.f k x655000 x655001 x656000 x656001).bind fun bt657 => (cellarerref02_Gcd.l0 k x656000 x656001 bt657.2.2.1 bt657.2.2.2)) else ((cellarerref02_make0.f k false x655001).bind fun bt667 => (some (bt667.1, bt667.2)))
def cellarerref02_Gcd.f (k : Nat) (a0_0 : Bool) (l0_1 : List Int) (a1_0 : Bool) (l1_1 : List Int) : Option (Bool × List Int) := cellarerref02_Gcd.l0 k a0_0 l0_1 a1_0 l1_1
/-! ### cellarerlaw02_IntegerDivides: function 3 -/
def cellarerlaw02_IntegerDivides.j0 : Nat → ByteArray → ByteArray → ByteArray → ByteArray → Int → ByteArray → Int → Bool → Option (Bool)
 | 0, _, _, _, _, _, _, _, _ => none
 | k + 1, x0, x1, x5, x6, x7, x8, x9, x39 => if x39 = true then (if x5.size + x6.size ≤ 9223372036854775807 then (if (x5 ++ x6).size + x8.size ≤ 9223372036854775807 then (if ((x5 ++ x6) ++ x8).toList = ([] : List UInt8) then (if x7 = 3 then (some (x9 == 3)) else (some false)) else (some false)) else (none)) else (none)) else ((cellarerref02_Of.f k x0).bind fun bt680 => ((cellarerref02_Of.f k x1).bind fun bt684 => ((cellarerref02_Gcd.f k bt680.1 bt680.2 bt684.1 bt684.2).bind fun bt690 => ((cellarerlaw02_agree.f k x8 x9 bt690.1 bt690.2).bind fun t694 => (if t694 = true then (if x1.toList = ([48] : List UInt8) then (if x5.size + x6.size ≤ 9223372036854775807 then (if (x5 ++ x6).toList = ([] : List UInt8) then (some (x7 == 24)) else (some false)) else (none)) else ((cellarerref02_DivMod.f k bt680.1 bt680.2 bt684.1 bt684.2).bind fun bt695 => ((cellarerref02_Text.f k bt695.1 bt695.2.1).bind fun t705 => (if x5.toList = t705.toList then ((cellarerref02_Text.f k bt695.2.2.1 bt695.2.2.2).bind fun t706 => (if x6.toList = t706.toList then (some (x7 == 0)) else (some false))) else (some false))))) else (some false))))))
def cellarerlaw02_IntegerDivides.f (k : Nat) (a0 : ByteArray) (a1 : ByteArray) : Option (Bool) := (cellarerlaw02_awake.f k).bind fun t671 => (if t671 = true then ((cellarerlaw02_long.f a0 a1).bind fun t672 => (if t672 = true then (some true) else ((integer_DivMod.f k a0 a1).bind fun bt673 => ((integer_Gcd.f k a0 a1).bind fun bt676 => ((cellarerref02_Valid.f k a0).bind fun t678 => (if t678 = true then ((cellarerref02_Valid.f k a1).bind fun t679 => (cellarerlaw02_IntegerDivides.j0 k a0 a1 bt673.1 bt673.2.1 bt673.2.2 bt676.1 bt676.2 (!t679))) else (cellarerlaw02_IntegerDivides.j0 k a0 a1 bt673.1 bt673.2.1 bt673.2.2 bt676.1 bt676.2 true))))))) else (some false))
/-- THE ONE PURE STATEMENT of cellarerlaw02_IntegerDivides: yours. -/
def cellarerlaw02_IntegerDivides.Pure : Prop := ∀ (a0 : ByteArray) (a1 : ByteArray), a0.size ≤ 140737488351232 → a1.size ≤ 140737488351232 → ∃ k, cellarerlaw02_IntegerDivides.f k a0 a1 = some true
/-! ### cellarerlaw02_IntegerRings: function 6 -/
/-! ### integer_Cmp: function 28 -/
/-! ### cellarerlaw02_IntegerQuotients: function 7 -/
/-! ### cellarerlaw02_IntegerDivisors: function 8 -/
/-! ### integer_Small: function 30 -/
/-! ### cellarerlaw02_IntegerSmalls: function 9 -/
/-! ### integer_Neg: function 31 -/
/-! ### cellarerref02_Cmp: function 34 -/
/-! ### cellarerref02_Small: function 32 -/
/-! ### cellarerlaw02_IntegerOrders: function 10 -/
end Go.Proofs.YtdnjlmoggnbknaaDoor.PInt
