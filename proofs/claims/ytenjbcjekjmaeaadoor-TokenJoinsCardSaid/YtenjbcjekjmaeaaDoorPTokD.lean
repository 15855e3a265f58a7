-- Written by a program of this session's (xprint.py) over the kit's print.
import Derived.Test.YtenjbcjekjmaeaaDoorPTokx0
namespace Go.Proofs.YtenjbcjekjmaeaaDoor.PTok
open Go.RowKit Go.Proofs.YtenjbcjekjmaeaaDoor.Ext Go.Proofs.YtenjbcjekjmaeaaDoorW.PrintWords Go.Proofs.YtenjbcjekjmaeaaDoorW.PrintLast
attribute [local go_sem high] gtr_print leq_print
set_option linter.unusedVariables false
set_option linter.unusedSimpArgs false

/-! ### token_wrong: function 20 -/
def token_wrong.l0 : Nat → ByteArray → Int → Int → Option (Int)
 | 0, _, _, _ => none
 | k + 1, x0, x6, x7 => if x7 < x6 then (if 0 ≤ x7 then (if x7 < (x0.size : Int) then (if (bt x0 x7) < 32 then (if (bt x0 x7) = 9 then (token_wrong.l0 k x0 x6 (wrap64 (x7 + 1))) else (if (bt x0 x7) = 13 then (token_wrong.l0 k x0 x6 (wrap64 (x7 + 1))) else (if (bt x0 x7) = 10 then (token_wrong.l0 k x0 x6 (wrap64 (x7 + 1))) else (some x7)))) else (if (bt x0 x7) > 126 then (if (bt x0 x7) = 9 then (token_wrong.l0 k x0 x6 (wrap64 (x7 + 1))) else (if (bt x0 x7) = 13 then (token_wrong.l0 k x0 x6 (wrap64 (x7 + 1))) else (if (bt x0 x7) = 10 then (token_wrong.l0 k x0 x6 (wrap64 (x7 + 1))) else (some x7)))) else (token_wrong.l0 k x0 x6 (wrap64 (x7 + 1))))) else (none)) else (none)) else (some (-1))
def token_wrong.f (k : Nat) (a0 : ByteArray) : Option (Int) := token_wrong.l0 k a0 (a0.size : Int) 0
theorem token_wrong.mono_l : ∀ k, (∀ y0 y1 y2, LeO (token_wrong.l0 k y0 y1 y2) (token_wrong.l0 (k + 1) y0 y1 y2))
 | 0 => fun _ _ _ r h => by simp [token_wrong.l0] at h
 | k + 1 => by
  have ih0 := token_wrong.mono_l k
  ·intro y0 y1 y2
   unfold token_wrong.l0
   repeat' first
   | (with_reducible exact ih0 _ _ _)
   | (with_reducible exact LeO.refl _)
   | (with_reducible exact LeO.none _)
   | (with_reducible refine LeO.ite ?_ ?_)
   | (with_reducible refine LeO.bind ?_ (fun _ => ?_))
   | exact ih0 _ _ _
   | exact LeO.none _
   | refine LeO.ite ?_ ?_
   | refine LeO.bind ?_ (fun _ => ?_)
theorem token_wrong.mono : ∀ a0 k, LeO (token_wrong.f k a0) (token_wrong.f (k + 1) a0) := by
 intro a0 k
 have ih0 := token_wrong.mono_l k
 unfold token_wrong.f
 repeat' first
   | (with_reducible exact ih0 _ _ _)
   | (with_reducible exact LeO.refl _)
   | (with_reducible exact LeO.none _)
   | (with_reducible refine LeO.ite ?_ ?_)
   | (with_reducible refine LeO.bind ?_ (fun _ => ?_))
   | exact ih0 _ _ _
   | exact LeO.none _
   | refine LeO.ite ?_ ?_
   | refine LeO.bind ?_ (fun _ => ?_)
/-! ### token_names: function 21 -/
def nameB (c : Nat) : Bool := (decide (97 ≤ c) && decide (c ≤ 122)) || (decide (65 ≤ c) && decide (c ≤ 90)) || (decide (48 ≤ c) && decide (c ≤ 57)) || c == 95
def token_names.f : Option (Nat → Bool) := some nameB
/-! ### strings_IndexByte: function 22 -/
def strings_IndexByte.f (a0 : ByteArray) (a1 : Int) : Option Int := some (Lib.indexByte a0.data.toList a1.toNat.toUInt8)
/-! ### stringslite_HasPrefix: function 35 -/
def stringslite_HasPrefix.f (a0 : ByteArray) (a1 : ByteArray) : Option (Bool) := if (a0.size : Int) ≥ (a1.size : Int) then (if 0 ≤ (a1.size : Int) then (if (a1.size : Int) ≤ (a0.size : Int) then (some ((a0.extract 0 ((a1.size : Int) : Int).toNat).toList == a1.toList)) else (none)) else (none)) else (some false)
/-! ### strings_HasPrefix: function 23 -/
def strings_HasPrefix.f (a0 : ByteArray) (a1 : ByteArray) : Option (Bool) := (stringslite_HasPrefix.f a0 a1).bind fun t101 => (some t101)
/-! ### token_digit: function 24 -/
def token_digit.f (a0 : Int) : Option (Bool) := if a0 ≥ 48 then (some (decide (a0 ≤ 57))) else (some false)
/-! ### token_Keyword: function 14 -/
def token_Keyword.f (a0 : ByteArray) : Option (Bool) := if a0.toList = ([109, 111, 100, 117, 108, 101] : List UInt8) then (some true) else (if a0.toList = ([105, 109, 112, 111, 114, 116] : List UInt8) then (some true) else (if a0.toList = ([100, 97, 116, 97] : List UInt8) then (some true) else (if a0.toList = ([102, 117, 110] : List UInt8) then (some true) else (if a0.toList = ([114, 101, 97, 100] : List UInt8) then (some true) else (if a0.toList = ([108, 101, 116] : List UInt8) then (some true) else (if a0.toList = ([105, 110] : List UInt8) then (some true) else (if a0.toList = ([105, 102] : List UInt8) then (some true) else (if a0.toList = ([116, 104, 101, 110] : List UInt8) then (some true) else (if a0.toList = ([101, 108, 115, 101] : List UInt8) then (some true) else (if a0.toList = ([109, 97, 116, 99, 104] : List UInt8) then (some true) else (if a0.toList = ([118, 105, 101, 119] : List UInt8) then (some true) else (if a0.toList = ([119, 105, 116, 104] : List UInt8) then (some true) else (if a0.toList = ([101, 110, 100] : List UInt8) then (some true) else (if a0.toList = ([99, 111, 112, 121] : List UInt8) then (some true) else (some false)))))))))))))))
/-! ### token_word: function 25 -/
def token_word.f (a0 : ByteArray) : Option (Int × ByteArray × Int × Int × Int) := if (a0.size : Int) > 32 then (some (0, (⟨#[]⟩ : ByteArray), 0, 0, 5)) else (if 0 < (a0.size : Int) then (if (bt a0 0) ≤ 90 then (some (2, a0, 0, 0, 0)) else ((token_Keyword.f a0).bind fun t104 => (if t104 = true then (some (5, a0, 0, 0, 0)) else (some (1, a0, 0, 0, 0))))) else (none))
/-! ### token_signed: function 26 -/
def token_signed.f (l0 : List (S36)) : Option (Bool) := if (l0.length : Int) = 0 then (some true) else (if 0 ≤ (wrap64 ((l0.length : Int) - 1)) then (if (wrap64 ((l0.length : Int) - 1)) < (l0.length : Int) then (if ((rd_T36 l0 (wrap64 ((l0.length : Int) - 1))).f0) = 5 then (some true) else (if ((rd_T36 l0 (wrap64 ((l0.length : Int) - 1))).f0) = 4 then (if ((rd_T36 l0 (wrap64 ((l0.length : Int) - 1))).f1).toList = ([41] : List UInt8) then (some false) else (if ((rd_T36 l0 (wrap64 ((l0.length : Int) - 1))).f1).toList = ([58] : List UInt8) then (some false) else (if ((rd_T36 l0 (wrap64 ((l0.length : Int) - 1))).f1).toList = ([95] : List UInt8) then (some false) else (some true)))) else (some false))) else (none)) else (none))
/-! ### strconv_ParseInt: function 27 -/
/-- base 10, 64 bits: the number, and whether there is an error. -/
def strconv_ParseInt.f (a0 : ByteArray) (a1 a2 : Int) : Option (Int × Option Int) :=
 if a1 = 10 ∧ a2 = 64 ∧ a0.size ≤ 140737488351232 then
  (match Lib.parseIntB 64 a0.data.toList with
   | .ok v => some (v, none)
   | .range => some (Lib.intSat 64 a0.data.toList, some 1)
   | _ => some (0, some 0))
 else none
/-! ### token_punctuation: function 28 -/
def token_punctuation.j0 : Nat → ByteArray → Bool → Option (Int)
 | 0, _, _ => none
 | k + 1, x0, x8 => if x8 = true then (some 2) else (if 0 < (x0.size : Int) then ((strings_IndexByte.f (⟨#[40, 41, 44, 124, 61, 58, 60, 43, 45, 42, 47, 37, 95]⟩ : ByteArray) (bt x0 0)).bind fun t107 => (if t107 ≥ 0 then (some 1) else (some 0))) else (none))
def token_punctuation.f (k : Nat) (a0 : ByteArray) : Option (Int) := if (a0.size : Int) > 1 then (if 0 ≤ 2 then (if 2 ≤ (a0.size : Int) then (if (a0.extract 0 2).toList = ([61, 61] : List UInt8) then (token_punctuation.j0 k a0 ((a0.extract 0 2).toList == ([61, 61] : List UInt8))) else (if (a0.extract 0 2).toList = ([45, 62] : List UInt8) then (token_punctuation.j0 k a0 ((a0.extract 0 2).toList == ([45, 62] : List UInt8))) else (token_punctuation.j0 k a0 ((a0.extract 0 2).toList == ([60, 61] : List UInt8))))) else (none)) else (none)) else (if 0 < (a0.size : Int) then ((strings_IndexByte.f (⟨#[40, 41, 44, 124, 61, 58, 60, 43, 45, 42, 47, 37, 95]⟩ : ByteArray) (bt a0 0)).bind fun t108 => (if t108 ≥ 0 then (some 1) else (some 0))) else (none))
theorem token_punctuation.mono_l : ∀ k, (∀ y0 y1, LeO (token_punctuation.j0 k y0 y1) (token_punctuation.j0 (k + 1) y0 y1))
 | 0 => fun _ _ r h => by simp [token_punctuation.j0] at h
 | k + 1 => by
  have ih0 := token_punctuation.mono_l k
  ·intro y0 y1
   unfold token_punctuation.j0
   repeat' first
   | (with_reducible exact ih0 _ _)
   | (with_reducible exact LeO.refl _)
   | (with_reducible exact LeO.none _)
   | (with_reducible refine LeO.ite ?_ ?_)
   | (with_reducible refine LeO.bind ?_ (fun _ => ?_))
   | exact ih0 _ _
   | exact LeO.none _
   | refine LeO.ite ?_ ?_
   | refine LeO.bind ?_ (fun _ => ?_)
theorem token_punctuation.mono : ∀ a0 k, LeO (token_punctuation.f k a0) (token_punctuation.f (k + 1) a0) := by
 intro a0 k
 have ih0 := token_punctuation.mono_l k
 unfold token_punctuation.f
 repeat' first
   | (with_reducible exact ih0 _ _)
   | (with_reducible exact LeO.refl _)
   | (with_reducible exact LeO.none _)
   | (with_reducible refine LeO.ite ?_ ?_)
   | (with_reducible refine LeO.bind ?_ (fun _ => ?_))
   | exact ih0 _ _
   | exact LeO.none _
   | refine LeO.ite ?_ ?_
   | refine LeO.bind ?_ (fun _ => ?_)
/-! ### token_Scan: function 11 -/
mutual
def token_Scan.l0 : Nat → ByteArray → List (S36) → List (S33) → Int → (Nat → Bool) → Option ((List (S36)) × (List (S33)) × Int × Int)
 | 0, _, _, _, _, _ => none
 | k + 1, x0, x8, x9, x10, x112000 => if x10 < (x0.size : Int) then (if 0 ≤ x10 then (if x10 ≤ (x0.size : Int) then ((some (x0.extract (x10 : Int).toNat x0.size)).bind fun bz115 => ((strings_IndexByte.f (⟨#[32, 9, 13, 10]⟩ : ByteArray) (bt x0 x10)).bind fun t116 => ((some (decide (t116 ≥ 0))).bind fun bz117 => (if bz117 = true then (token_Scan.l0 k x0 x8 x9 (wrap64 (x10 + 1)) x112000) else ((strings_HasPrefix.f bz115 (⟨#[45, 45]⟩ : ByteArray)).bind fun t118 => (if t118 = true then ((strings_IndexByte.f bz115 10).bind fun t119 => (if t119 < 0 then (if x9.length < 8796093022208 then (token_Scan.l0 k x0 x8 (x9 ++ [(⟨x10, wrap64 (x10 + (bz115.size : Int))⟩ : S33)]) (wrap64 (x10 + (bz115.size : Int))) x112000) else (none)) else (if x9.length < 8796093022208 then (token_Scan.l0 k x0 x8 (x9 ++ [(⟨x10, wrap64 (x10 + t119)⟩ : S33)]) (wrap64 (x10 + t119)) x112000) else (none)))) else (token_Scan.l1 k x0 x8 x9 x10 (bt x0 x10) bz115 1 x112000))))))) else (none)) else (none)) else (if x8.length < 3518437208883 then (some ((x8 ++ [(⟨6, (⟨#[]⟩ : ByteArray), (⟨x10, x10⟩ : S33)⟩ : S36)]), x9, 0, 0)) else (none))
def token_Scan.j2 : Nat → ByteArray → List (S36) → List (S33) → Int → Int → ByteArray → Int → (Nat → Bool) → Option ((List (S36)) × (List (S33)) × Int × Int)
 | 0, _, _, _, _, _, _, _, _ => none
 | k + 1, x0, x8, x9, x10, x11, x12, x14, x112000 => if x11 = 95 then (token_Scan.j3 k x0 x8 x9 x10 x11 x12 x14 false x112000) else (if 0 ≤ x11 then (if x11 < 256 then (if (x112000 (x11 : Int).toNat) = true then ((token_digit.f x11).bind fun t127 => ((some (!t127)).bind fun bz128 => (token_Scan.j3 k x0 x8 x9 x10 x11 x12 x14 bz128 x112000))) else (token_Scan.j3 k x0 x8 x9 x10 x11 x12 x14 false x112000)) else (none)) else (none))
def token_Scan.j3 : Nat → ByteArray → List (S36) → List (S33) → Int → Int → ByteArray → Int → Bool → (Nat → Bool) → Option ((List (S36)) × (List (S33)) × Int × Int)
 | 0, _, _, _, _, _, _, _, _, _ => none
 | k + 1, x0, x8, x9, x10, x11, x12, x14, x93, x112000 => if x93 = true then (if 0 ≤ x14 then (if x14 ≤ (x12.size : Int) then ((token_word.f (x12.extract 0 (x14 : Int).toNat)).bind fun bt129 => (if bt129.2.2.2.2 = 0 then (if x8.length < 3518437208883 then (token_Scan.l0 k x0 (x8 ++ [(⟨bt129.1, bt129.2.1, (⟨x10, wrap64 (x10 + x14)⟩ : S33)⟩ : S36)]) x9 (wrap64 (x10 + x14)) x112000) else (none)) else (some (([] : List (S36)), ([] : List (S33)), x10, bt129.2.2.2.2)))) else (none)) else (none)) else ((token_digit.f x11).bind fun t137 => (if t137 = true then (token_Scan.j4 k x0 x8 x9 x10 x11 x12 x14 true x112000) else (if x11 = 45 then (if (x12.size : Int) > 1 then (if 1 < (x12.size : Int) then ((token_digit.f (bt x12 1)).bind fun t138 => (if t138 = true then ((token_signed.f x8).bind fun t139 => (token_Scan.j4 k x0 x8 x9 x10 x11 x12 x14 t139 x112000)) else (token_Scan.j4 k x0 x8 x9 x10 x11 x12 x14 false x112000))) else (none)) else (token_Scan.j4 k x0 x8 x9 x10 x11 x12 x14 false x112000)) else (token_Scan.j4 k x0 x8 x9 x10 x11 x12 x14 false x112000))))
def token_Scan.j4 : Nat → ByteArray → List (S36) → List (S33) → Int → Int → ByteArray → Int → Bool → (Nat → Bool) → Option ((List (S36)) × (List (S33)) × Int × Int)
 | 0, _, _, _, _, _, _, _, _, _ => none
 | k + 1, x0, x8, x9, x10, x11, x12, x14, x117, x112000 => if x117 = true then (token_Scan.l2 k x0 x8 x9 x10 x12 1 x112000) else (if x11 = 95 then (token_Scan.j7 k x0 x8 x9 x10 x12 (decide (x14 > 1)) x112000) else (token_Scan.j7 k x0 x8 x9 x10 x12 false x112000))
def token_Scan.j6 : Nat → ByteArray → List (S36) → List (S33) → Int → ByteArray → Int → (Nat → Bool) → Option ((List (S36)) × (List (S33)) × Int × Int)
 | 0, _, _, _, _, _, _, _ => none
 | k + 1, x0, x8, x9, x10, x12, x14, x112000 => if 0 ≤ x14 then (if x14 ≤ (x12.size : Int) then ((strconv_ParseInt.f (x12.extract 0 (x14 : Int).toNat) 10 64).bind fun bt141 => (if bt141.2.isNone = true then (if x14 < (x12.size : Int) then (if 0 ≤ (bt x12 x14) then (if (bt x12 x14) < 256 then (if (x112000 (bt x12 x14 : Int).toNat) = true then (some (([] : List (S36)), ([] : List (S33)), wrap64 (x10 + x14), 4)) else (if x8.length < 3518437208883 then (token_Scan.l0 k x0 (x8 ++ [(⟨3, x12.extract 0 (x14 : Int).toNat, (⟨x10, wrap64 (x10 + x14)⟩ : S33)⟩ : S36)]) x9 (wrap64 (x10 + x14)) x112000) else (none))) else (none)) else (none)) else (if x8.length < 3518437208883 then (token_Scan.l0 k x0 (x8 ++ [(⟨3, x12.extract 0 (x14 : Int).toNat, (⟨x10, wrap64 (x10 + x14)⟩ : S33)⟩ : S36)]) x9 (wrap64 (x10 + x14)) x112000) else (none))) else (some (([] : List (S36)), ([] : List (S33)), x10, 2)))) else (none)) else (none)
def token_Scan.l2 : Nat → ByteArray → List (S36) → List (S33) → Int → ByteArray → Int → (Nat → Bool) → Option ((List (S36)) × (List (S33)) × Int × Int)
 | 0, _, _, _, _, _, _, _ => none
 | k + 1, x0, x8, x9, x10, x12, x14, x112000 => if x14 < (x12.size : Int) then (if 0 ≤ x14 then ((token_digit.f (bt x12 x14)).bind fun t140 => (if t140 = true then (token_Scan.l2 k x0 x8 x9 x10 x12 (wrap64 (x14 + 1)) x112000) else (token_Scan.j6 k x0 x8 x9 x10 x12 x14 x112000))) else (none)) else (token_Scan.j6 k x0 x8 x9 x10 x12 x14 x112000)
def token_Scan.j7 : Nat → ByteArray → List (S36) → List (S33) → Int → ByteArray → Bool → (Nat → Bool) → Option ((List (S36)) × (List (S33)) × Int × Int)
 | 0, _, _, _, _, _, _, _ => none
 | k + 1, x0, x8, x9, x10, x12, x82, x112000 => if x82 = true then (some (([] : List (S36)), ([] : List (S33)), x10, 4)) else ((token_punctuation.f k x12).bind fun t150 => (if t150 = 0 then (some (([] : List (S36)), ([] : List (S33)), x10, 4)) else (if 0 ≤ t150 then (if t150 ≤ (x12.size : Int) then (if x8.length < 3518437208883 then (token_Scan.l0 k x0 (x8 ++ [(⟨4, x12.extract 0 (t150 : Int).toNat, (⟨x10, wrap64 (x10 + t150)⟩ : S33)⟩ : S36)]) x9 (wrap64 (x10 + t150)) x112000) else (none)) else (none)) else (none))))
def token_Scan.l1 : Nat → ByteArray → List (S36) → List (S33) → Int → Int → ByteArray → Int → (Nat → Bool) → Option ((List (S36)) × (List (S33)) × Int × Int)
 | 0, _, _, _, _, _, _, _, _ => none
 | k + 1, x0, x8, x9, x10, x11, x12, x14, x112000 => if x14 < (x12.size : Int) then (if 0 ≤ x14 then (if 0 ≤ (bt x12 x14) then (if (bt x12 x14) < 256 then (if (x112000 (bt x12 x14 : Int).toNat) = true then (token_Scan.l1 k x0 x8 x9 x10 x11 x12 (wrap64 (x14 + 1)) x112000) else (token_Scan.j2 k x0 x8 x9 x10 x11 x12 x14 x112000)) else (none)) else (none)) else (none)) else (token_Scan.j2 k x0 x8 x9 x10 x11 x12 x14 x112000)
end
def token_Scan.f (k : Nat) (a0 : ByteArray) : Option ((List (S36)) × (List (S33)) × Int × Int) := if (a0.size : Int) > 65536 then (some (([] : List (S36)), ([] : List (S33)), 0, 5)) else ((token_wrong.f k a0).bind fun t109 => (if t109 ≥ 0 then (some (([] : List (S36)), ([] : List (S33)), t109, 25)) else ((token_names.f).bind fun t110 => (token_Scan.l0 k a0 ([] : List (S36)) ([] : List (S33)) 0 t110))))
theorem token_Scan.mono_l : ∀ k, (∀ y0 y1 y2 y3 y4, LeO (token_Scan.l0 k y0 y1 y2 y3 y4) (token_Scan.l0 (k + 1) y0 y1 y2 y3 y4)) ∧ (∀ y0 y1 y2 y3 y4 y5 y6 y7, LeO (token_Scan.j2 k y0 y1 y2 y3 y4 y5 y6 y7) (token_Scan.j2 (k + 1) y0 y1 y2 y3 y4 y5 y6 y7)) ∧ (∀ y0 y1 y2 y3 y4 y5 y6 y7 y8, LeO (token_Scan.j3 k y0 y1 y2 y3 y4 y5 y6 y7 y8) (token_Scan.j3 (k + 1) y0 y1 y2 y3 y4 y5 y6 y7 y8)) ∧ (∀ y0 y1 y2 y3 y4 y5 y6 y7 y8, LeO (token_Scan.j4 k y0 y1 y2 y3 y4 y5 y6 y7 y8) (token_Scan.j4 (k + 1) y0 y1 y2 y3 y4 y5 y6 y7 y8)) ∧ (∀ y0 y1 y2 y3 y4 y5 y6, LeO (token_Scan.j6 k y0 y1 y2 y3 y4 y5 y6) (token_Scan.j6 (k + 1) y0 y1 y2 y3 y4 y5 y6)) ∧ (∀ y0 y1 y2 y3 y4 y5 y6, LeO (token_Scan.l2 k y0 y1 y2 y3 y4 y5 y6) (token_Scan.l2 (k + 1) y0 y1 y2 y3 y4 y5 y6)) ∧ (∀ y0 y1 y2 y3 y4 y5 y6, LeO (token_Scan.j7 k y0 y1 y2 y3 y4 y5 y6) (token_Scan.j7 (k + 1) y0 y1 y2 y3 y4 y5 y6)) ∧ (∀ y0 y1 y2 y3 y4 y5 y6 y7, LeO (token_Scan.l1 k y0 y1 y2 y3 y4 y5 y6 y7) (token_Scan.l1 (k + 1) y0 y1 y2 y3 y4 y5 y6 y7))
 | 0 => ⟨fun _ _ _ _ _ r h => by simp [token_Scan.l0] at h, fun _ _ _ _ _ _ _ _ r h => by simp [token_Scan.j2] at h, fun _ _ _ _ _ _ _ _ _ r h => by simp [token_Scan.j3] at h, fun _ _ _ _ _ _ _ _ _ r h => by simp [token_Scan.j4] at h, fun _ _ _ _ _ _ _ r h => by simp [token_Scan.j6] at h, fun _ _ _ _ _ _ _ r h => by simp [token_Scan.l2] at h, fun _ _ _ _ _ _ _ r h => by simp [token_Scan.j7] at h, fun _ _ _ _ _ _ _ _ r h => by simp [token_Scan.l1] at h⟩
 | k + 1 => by
  obtain ⟨ih0, ih1, ih2, ih3, ih4, ih5, ih6, ih7⟩ := token_Scan.mono_l k
  refine ⟨?_, ?_, ?_, ?_, ?_, ?_, ?_, ?_⟩
  all_goals (intros; first | unfold token_Scan.l0 | unfold token_Scan.j2 | unfold token_Scan.j3 | unfold token_Scan.j4 | unfold token_Scan.j6 | unfold token_Scan.l2 | unfold token_Scan.j7 | unfold token_Scan.l1)
  all_goals repeat' first
   | (with_reducible exact ih0 _ _ _ _ _)
   | (with_reducible exact ih1 _ _ _ _ _ _ _ _)
   | (with_reducible exact ih2 _ _ _ _ _ _ _ _ _)
   | (with_reducible exact ih3 _ _ _ _ _ _ _ _ _)
   | (with_reducible exact ih4 _ _ _ _ _ _ _)
   | (with_reducible exact ih5 _ _ _ _ _ _ _)
   | (with_reducible exact ih6 _ _ _ _ _ _ _)
   | (with_reducible exact ih7 _ _ _ _ _ _ _ _)
   | (with_reducible exact token_punctuation.mono _ _)
   | (with_reducible exact token_wrong.mono _ _)
   | (with_reducible exact LeO.refl _)
   | (with_reducible exact LeO.none _)
   | (with_reducible refine LeO.ite ?_ ?_)
   | (with_reducible refine LeO.bind ?_ (fun _ => ?_))
   | exact ih0 _ _ _ _ _
   | exact ih1 _ _ _ _ _ _ _ _
   | exact ih2 _ _ _ _ _ _ _ _ _
   | exact ih3 _ _ _ _ _ _ _ _ _
   | exact ih4 _ _ _ _ _ _ _
   | exact ih5 _ _ _ _ _ _ _
   | exact ih6 _ _ _ _ _ _ _
   | exact ih7 _ _ _ _ _ _ _ _
   | exact token_punctuation.mono _ _
   | exact token_wrong.mono _ _
   | exact LeO.none _
   | refine LeO.ite ?_ ?_
   | refine LeO.bind ?_ (fun _ => ?_)
theorem token_Scan.mono : ∀ a0 k, LeO (token_Scan.f k a0) (token_Scan.f (k + 1) a0) := by
 intro a0 k
 obtain ⟨ih0, ih1, ih2, ih3, ih4, ih5, ih6, ih7⟩ := token_Scan.mono_l k
 unfold token_Scan.f
 repeat' first
   | (with_reducible exact ih0 _ _ _ _ _)
   | (with_reducible exact ih1 _ _ _ _ _ _ _ _)
   | (with_reducible exact ih2 _ _ _ _ _ _ _ _ _)
   | (with_reducible exact ih3 _ _ _ _ _ _ _ _ _)
   | (with_reducible exact ih4 _ _ _ _ _ _ _)
   | (with_reducible exact ih5 _ _ _ _ _ _ _)
   | (with_reducible exact ih6 _ _ _ _ _ _ _)
   | (with_reducible exact ih7 _ _ _ _ _ _ _ _)
   | (with_reducible exact token_punctuation.mono _ _)
   | (with_reducible exact token_wrong.mono _ _)
   | (with_reducible exact LeO.refl _)
   | (with_reducible exact LeO.none _)
   | (with_reducible refine LeO.ite ?_ ?_)
   | (with_reducible refine LeO.bind ?_ (fun _ => ?_))
   | exact ih0 _ _ _ _ _
   | exact ih1 _ _ _ _ _ _ _ _
   | exact ih2 _ _ _ _ _ _ _ _ _
   | exact ih3 _ _ _ _ _ _ _ _ _
   | exact ih4 _ _ _ _ _ _ _
   | exact ih5 _ _ _ _ _ _ _
   | exact ih6 _ _ _ _ _ _ _
   | exact ih7 _ _ _ _ _ _ _ _
   | exact token_punctuation.mono _ _
   | exact token_wrong.mono _ _
   | exact LeO.none _
   | refine LeO.ite ?_ ?_
   | refine LeO.bind ?_ (fun _ => ?_)
/-! ### cellarerlaw13_texts: function 17 -/
mutual
def cellarerlaw13_texts.j0 : Nat → List ByteArray → List (S36) → Bool → Option (Bool)
 | 0, _, _, _ => none
 | k + 1, x1, x5, x26 => if x26 = true then (some false) else (cellarerlaw13_texts.l0 k x1 x5 0)
def cellarerlaw13_texts.l0 : Nat → List ByteArray → List (S36) → Int → Option (Bool)
 | 0, _, _, _ => none
 | k + 1, x1, x5, x9 => if x9 < (x1.length : Int) then (if 0 ≤ x9 then (if x9 < (x5.length : Int) then (if ((rd_T36 x5 x9).f1).toList = (rdOf ByteArray.empty x1 x9).toList then (cellarerlaw13_texts.l0 k x1 x5 (wrap64 (x9 + 1))) else (some false)) else (none)) else (none)) else (some true)
end
def cellarerlaw13_texts.f (k : Nat) (a0 : ByteArray) (l1 : List ByteArray) : Option (Bool) := (token_Scan.f k a0).bind fun bt154 => (if bt154.2.2.2 = 0 then (cellarerlaw13_texts.j0 k l1 bt154.1 ((bt154.1.length : Int) != (wrap64 ((l1.length : Int) + 1)))) else (cellarerlaw13_texts.j0 k l1 bt154.1 true))
theorem cellarerlaw13_texts.mono_l : ∀ k, (∀ y0 y1 y2, LeO (cellarerlaw13_texts.j0 k y0 y1 y2) (cellarerlaw13_texts.j0 (k + 1) y0 y1 y2)) ∧ (∀ y0 y1 y2, LeO (cellarerlaw13_texts.l0 k y0 y1 y2) (cellarerlaw13_texts.l0 (k + 1) y0 y1 y2))
 | 0 => ⟨fun _ _ _ r h => by simp [cellarerlaw13_texts.j0] at h, fun _ _ _ r h => by simp [cellarerlaw13_texts.l0] at h⟩
 | k + 1 => by
  obtain ⟨ih0, ih1⟩ := cellarerlaw13_texts.mono_l k
  refine ⟨?_, ?_⟩
  all_goals (intros; first | unfold cellarerlaw13_texts.j0 | unfold cellarerlaw13_texts.l0)
  all_goals repeat' first
   | (with_reducible exact ih0 _ _ _)
   | (with_reducible exact ih1 _ _ _)
   | (with_reducible exact token_Scan.mono _ _)
   | (with_reducible exact LeO.refl _)
   | (with_reducible exact LeO.none _)
   | (with_reducible refine LeO.ite ?_ ?_)
   | (with_reducible refine LeO.bind ?_ (fun _ => ?_))
   | exact ih0 _ _ _
   | exact ih1 _ _ _
   | exact token_Scan.mono _ _
   | exact LeO.none _
   | refine LeO.ite ?_ ?_
   | refine LeO.bind ?_ (fun _ => ?_)
theorem cellarerlaw13_texts.mono : ∀ a0 a1 k, LeO (cellarerlaw13_texts.f k a0 a1) (cellarerlaw13_texts.f (k + 1) a0 a1) := by
 intro a0 a1 k
 obtain ⟨ih0, ih1⟩ := cellarerlaw13_texts.mono_l k
 unfold cellarerlaw13_texts.f
 repeat' first
   | (with_reducible exact ih0 _ _ _)
   | (with_reducible exact ih1 _ _ _)
   | (with_reducible exact token_Scan.mono _ _)
   | (with_reducible exact LeO.refl _)
   | (with_reducible exact LeO.none _)
   | (with_reducible refine LeO.ite ?_ ?_)
   | (with_reducible refine LeO.bind ?_ (fun _ => ?_))
   | exact ih0 _ _ _
   | exact ih1 _ _ _
   | exact token_Scan.mono _ _
   | exact LeO.none _
   | refine LeO.ite ?_ ?_
   | refine LeO.bind ?_ (fun _ => ?_)
/-! ### cellarerlaw13_awake: function 10 -/
def cellarerlaw13_awake.f (k : Nat)  : Option (Bool) := (token_Scan.f k (⟨#[97, 45, 45, 98]⟩ : ByteArray)).bind fun bt164 => ((token_Scan.f k (⟨#[49, 120]⟩ : ByteArray)).bind fun bt172 => ((token_Scan.f k (⟨#[95, 97]⟩ : ByteArray)).bind fun bt180 => ((token_Scan.f k (⟨#[57, 50, 50, 51, 51, 55, 50, 48, 51, 54, 56, 53, 52, 55, 55, 53, 56, 48, 56]⟩ : ByteArray)).bind fun bt188 => ((cellarerlaw13_texts.f k (⟨#[102, 32, 45, 49, 32, 120, 45, 32, 50]⟩ : ByteArray) (([(⟨#[102]⟩ : ByteArray), (⟨#[45]⟩ : ByteArray), (⟨#[49]⟩ : ByteArray), (⟨#[120]⟩ : ByteArray), (⟨#[45]⟩ : ByteArray), (⟨#[50]⟩ : ByteArray)] : List ByteArray))).bind fun t199 => (if t199 = true then ((cellarerlaw13_texts.f k (⟨#[40, 45, 49, 41, 43, 45, 50]⟩ : ByteArray) (([(⟨#[40]⟩ : ByteArray), (⟨#[45, 49]⟩ : ByteArray), (⟨#[41]⟩ : ByteArray), (⟨#[43]⟩ : ByteArray), (⟨#[45, 50]⟩ : ByteArray)] : List ByteArray))).bind fun t203 => (if t203 = true then (if bt164.2.2.2 = 0 then (if (bt164.2.1.length : Int) = 1 then (if 0 < (bt164.2.1.length : Int) then (if (((rd_T33 bt164.2.1 0).f0) == 1 && (((rd_T33 bt164.2.1 0).f1) == 4)) = true then (if bt172.2.2.1 = 1 then (if bt172.2.2.2 = 4 then (if bt180.2.2.1 = 0 then (if bt180.2.2.2 = 4 then (if bt188.2.2.1 = 0 then (if bt188.2.2.2 = 2 then ((cellarerlaw13_texts.f k (⟨#[45, 57, 50, 50, 51, 51, 55, 50, 48, 51, 54, 56, 53, 52, 55, 55, 53, 56, 48, 56]⟩ : ByteArray) (([(⟨#[45, 57, 50, 50, 51, 51, 55, 50, 48, 51, 54, 56, 53, 52, 55, 55, 53, 56, 48, 56]⟩ : ByteArray)] : List ByteArray))).bind fun t208 => (some t208)) else (none)) else (none)) else (none)) else (none)) else (none)) else (none)) else (none)) else (none)) else (none)) else (none)) else (none))) else (none))))))
theorem cellarerlaw13_awake.mono : ∀ k, LeO (cellarerlaw13_awake.f k ) (cellarerlaw13_awake.f (k + 1) ) := by
 intro  k
 unfold cellarerlaw13_awake.f
 repeat' first
   | (with_reducible exact cellarerlaw13_texts.mono _ _ _)
   | (with_reducible exact token_Scan.mono _ _)
   | (with_reducible exact LeO.refl _)
   | (with_reducible exact LeO.none _)
   | (with_reducible refine LeO.ite ?_ ?_)
   | (with_reducible refine LeO.bind ?_ (fun _ => ?_))
   | exact cellarerlaw13_texts.mono _ _ _
   | exact token_Scan.mono _ _
   | exact LeO.none _
   | refine LeO.ite ?_ ?_
   | refine LeO.bind ?_ (fun _ => ?_)
/-! ### cellarerref13_white: function 29 -/
def cellarerref13_white.f (a0 : Int) : Option (Bool) := if a0 = 32 then (some true) else (if a0 = 9 then (some true) else (if a0 = 13 then (some true) else (some (a0 == 10))))
/-! ### cellarerref13_in: function 31 -/
def cellarerref13_in.l0 : Nat → List ByteArray → ByteArray → Int → Option (Bool)
 | 0, _, _, _ => none
 | k + 1, x0, x1, x5 => if x5 < (x0.length : Int) then (if 0 ≤ x5 then (if (rdOf ByteArray.empty x0 x5).toList = x1.toList then (some true) else (cellarerref13_in.l0 k x0 x1 (wrap64 (x5 + 1)))) else (none)) else (some false)
def cellarerref13_in.f (k : Nat) (l0 : List ByteArray) (a1 : ByteArray) : Option (Bool) := cellarerref13_in.l0 k l0 a1 0
theorem cellarerref13_in.mono_l : ∀ k, (∀ y0 y1 y2, LeO (cellarerref13_in.l0 k y0 y1 y2) (cellarerref13_in.l0 (k + 1) y0 y1 y2))
 | 0 => fun _ _ _ r h => by simp [cellarerref13_in.l0] at h
 | k + 1 => by
  have ih0 := cellarerref13_in.mono_l k
  ·intro y0 y1 y2
   unfold cellarerref13_in.l0
   repeat' first
   | (with_reducible exact ih0 _ _ _)
   | (with_reducible exact LeO.refl _)
   | (with_reducible exact LeO.none _)
   | (with_reducible refine LeO.ite ?_ ?_)
   | (with_reducible refine LeO.bind ?_ (fun _ => ?_))
   | exact ih0 _ _ _
   | exact LeO.none _
   | refine LeO.ite ?_ ?_
   | refine LeO.bind ?_ (fun _ => ?_)
theorem cellarerref13_in.mono : ∀ a0 a1 k, LeO (cellarerref13_in.f k a0 a1) (cellarerref13_in.f (k + 1) a0 a1) := by
 intro a0 a1 k
 have ih0 := cellarerref13_in.mono_l k
 unfold cellarerref13_in.f
 repeat' first
   | (with_reducible exact ih0 _ _ _)
   | (with_reducible exact LeO.refl _)
   | (with_reducible exact LeO.none _)
   | (with_reducible refine LeO.ite ?_ ?_)
   | (with_reducible refine LeO.bind ?_ (fun _ => ?_))
   | exact ih0 _ _ _
   | exact LeO.none _
   | refine LeO.ite ?_ ?_
   | refine LeO.bind ?_ (fun _ => ?_)
/-! ### cellarerref13_Keywords: function 32 -/
def cellarerref13_Keywords.f  : Option (List ByteArray) := some (([(⟨#[109, 111, 100, 117, 108, 101]⟩ : ByteArray), (⟨#[105, 109, 112, 111, 114, 116]⟩ : ByteArray), (⟨#[100, 97, 116, 97]⟩ : ByteArray), (⟨#[102, 117, 110]⟩ : ByteArray), (⟨#[114, 101, 97, 100]⟩ : ByteArray), (⟨#[108, 101, 116]⟩ : ByteArray), (⟨#[105, 110]⟩ : ByteArray), (⟨#[105, 102]⟩ : ByteArray), (⟨#[116, 104, 101, 110]⟩ : ByteArray), (⟨#[101, 108, 115, 101]⟩ : ByteArray), (⟨#[109, 97, 116, 99, 104]⟩ : ByteArray), (⟨#[118, 105, 101, 119]⟩ : ByteArray), (⟨#[119, 105, 116, 104]⟩ : ByteArray), (⟨#[101, 110, 100]⟩ : ByteArray), (⟨#[99, 111, 112, 121]⟩ : ByteArray)] : List ByteArray))
/-! ### cellarerref13_Keyword: function 15 -/
def cellarerref13_Keyword.f (k : Nat) (a0 : ByteArray) : Option (Bool) := (cellarerref13_Keywords.f).bind fun t213 => ((cellarerref13_in.f k t213 a0).bind fun t216 => (some t216))
theorem cellarerref13_Keyword.mono : ∀ a0 k, LeO (cellarerref13_Keyword.f k a0) (cellarerref13_Keyword.f (k + 1) a0) := by
 intro a0 k
 unfold cellarerref13_Keyword.f
 repeat' first
   | (with_reducible exact cellarerref13_in.mono _ _ _)
   | (with_reducible exact LeO.refl _)
   | (with_reducible exact LeO.none _)
   | (with_reducible refine LeO.ite ?_ ?_)
   | (with_reducible refine LeO.bind ?_ (fun _ => ?_))
   | exact cellarerref13_in.mono _ _ _
   | exact LeO.none _
   | refine LeO.ite ?_ ?_
   | refine LeO.bind ?_ (fun _ => ?_)
/-! ### cellarerref13_digit: function 38 -/
def cellarerref13_digit.f (a0 : Int) : Option (Bool) := if a0 ≥ 48 then (some (decide (a0 ≤ 57))) else (some false)
/-! ### cellarerref13_signed: function 39 -/
def cellarerref13_signed.f (k : Nat) (l0 : List (S41)) : Option (Bool) := if (l0.length : Int) = 0 then (some true) else (if 0 ≤ (wrap64 ((l0.length : Int) - 1)) then (if (wrap64 ((l0.length : Int) - 1)) < (l0.length : Int) then (if ((rd_T41 l0 (wrap64 ((l0.length : Int) - 1))).f0) = 5 then (some true) else (if ((rd_T41 l0 (wrap64 ((l0.length : Int) - 1))).f0) = 4 then ((cellarerref13_in.f k (([(⟨#[60]⟩ : ByteArray), (⟨#[60, 61]⟩ : ByteArray), (⟨#[61, 61]⟩ : ByteArray), (⟨#[43]⟩ : ByteArray), (⟨#[45]⟩ : ByteArray), (⟨#[42]⟩ : ByteArray), (⟨#[47]⟩ : ByteArray), (⟨#[37]⟩ : ByteArray), (⟨#[40]⟩ : ByteArray), (⟨#[44]⟩ : ByteArray), (⟨#[124]⟩ : ByteArray), (⟨#[45, 62]⟩ : ByteArray), (⟨#[61]⟩ : ByteArray)] : List ByteArray)) ((rd_T41 l0 (wrap64 ((l0.length : Int) - 1))).f1)).bind fun t223 => (some t223)) else (some false))) else (none)) else (none))
theorem cellarerref13_signed.mono : ∀ a0 k, LeO (cellarerref13_signed.f k a0) (cellarerref13_signed.f (k + 1) a0) := by
 intro a0 k
 unfold cellarerref13_signed.f
 repeat' first
   | (with_reducible exact cellarerref13_in.mono _ _ _)
   | (with_reducible exact LeO.refl _)
   | (with_reducible exact LeO.none _)
   | (with_reducible refine LeO.ite ?_ ?_)
   | (with_reducible refine LeO.bind ?_ (fun _ => ?_))
   | exact cellarerref13_in.mono _ _ _
   | exact LeO.none _
   | refine LeO.ite ?_ ?_
   | refine LeO.bind ?_ (fun _ => ?_)
/-! ### cellarerref13_upper: function 43 -/
def cellarerref13_upper.f (a0 : Int) : Option (Bool) := if a0 ≥ 65 then (some (decide (a0 ≤ 90))) else (some false)
/-! ### cellarerref13_part: function 42 -/
def cellarerref13_part.f (a0 : Int) : Option (Bool) := (cellarerref13_digit.f a0).bind fun t224 => (if t224 = true then (some true) else ((cellarerref13_upper.f a0).bind fun t225 => (if t225 = true then (some true) else (if a0 ≥ 97 then (if a0 ≤ 122 then (some true) else (some (a0 == 95))) else (some (a0 == 95))))))
/-! ### cellarerref13_run: function 40 -/
def cellarerref13_run.l0 : Nat → ByteArray → Int → Bool → Option (Int)
 | 0, _, _, _ => none
 | k + 1, x0, x1, x2 => if x1 < (x0.size : Int) then (if x2 = true then (if 0 ≤ x1 then ((cellarerref13_digit.f (bt x0 x1)).bind fun t226 => (if t226 = true then (cellarerref13_run.l0 k x0 (wrap64 (x1 + 1)) x2) else (some x1))) else (none)) else (if 0 ≤ x1 then ((cellarerref13_part.f (bt x0 x1)).bind fun t227 => (if t227 = true then (cellarerref13_run.l0 k x0 (wrap64 (x1 + 1)) x2) else (some x1))) else (none))) else (some x1)
def cellarerref13_run.f (k : Nat) (a0 : ByteArray) (a1 : Int) (a2 : Bool) : Option (Int) := cellarerref13_run.l0 k a0 a1 a2
theorem cellarerref13_run.mono_l : ∀ k, (∀ y0 y1 y2, LeO (cellarerref13_run.l0 k y0 y1 y2) (cellarerref13_run.l0 (k + 1) y0 y1 y2))
 | 0 => fun _ _ _ r h => by simp [cellarerref13_run.l0] at h
 | k + 1 => by
  have ih0 := cellarerref13_run.mono_l k
  ·intro y0 y1 y2
   unfold cellarerref13_run.l0
   repeat' first
   | (with_reducible exact ih0 _ _ _)
   | (with_reducible exact LeO.refl _)
   | (with_reducible exact LeO.none _)
   | (with_reducible refine LeO.ite ?_ ?_)
   | (with_reducible refine LeO.bind ?_ (fun _ => ?_))
   | exact ih0 _ _ _
   | exact LeO.none _
   | refine LeO.ite ?_ ?_
   | refine LeO.bind ?_ (fun _ => ?_)
theorem cellarerref13_run.mono : ∀ a0 a1 a2 k, LeO (cellarerref13_run.f k a0 a1 a2) (cellarerref13_run.f (k + 1) a0 a1 a2) := by
 intro a0 a1 a2 k
 have ih0 := cellarerref13_run.mono_l k
 unfold cellarerref13_run.f
 repeat' first
   | (with_reducible exact ih0 _ _ _)
   | (with_reducible exact LeO.refl _)
   | (with_reducible exact LeO.none _)
   | (with_reducible refine LeO.ite ?_ ?_)
   | (with_reducible refine LeO.bind ?_ (fun _ => ?_))
   | exact ih0 _ _ _
   | exact LeO.none _
   | refine LeO.ite ?_ ?_
   | refine LeO.bind ?_ (fun _ => ?_)
/-! ### cellarerref13_Number64: function 41 -/
mutual
def cellarerref13_Number64.j0 : Nat → ByteArray → Bool → Option (Int × Bool)
 | 0, _, _ => none
 | k + 1, x0, x4 => cellarerref13_Number64.l0 k x0 x4
def cellarerref13_Number64.j2 : Nat → ByteArray → Bool → Option (Int × Bool)
 | 0, _, _ => none
 | k + 1, x0, x4 => if x4 = true then (cellarerref13_Number64.j3 k x0 x4 (⟨#[57, 50, 50, 51, 51, 55, 50, 48, 51, 54, 56, 53, 52, 55, 55, 53, 56, 48, 56]⟩ : ByteArray)) else (cellarerref13_Number64.j3 k x0 x4 (⟨#[57, 50, 50, 51, 51, 55, 50, 48, 51, 54, 56, 53, 52, 55, 55, 53, 56, 48, 55]⟩ : ByteArray))
def cellarerref13_Number64.j3 : Nat → ByteArray → Bool → ByteArray → Option (Int × Bool)
 | 0, _, _, _ => none
 | k + 1, x0, x4, x5 => if (x0.size : Int) > (x5.size : Int) then (cellarerref13_Number64.j4 k x0 x4 true) else (if (x0.size : Int) = (x5.size : Int) then (cellarerref13_Number64.j4 k x0 x4 (strGt x0 x5)) else (cellarerref13_Number64.j4 k x0 x4 false))
def cellarerref13_Number64.j4 : Nat → ByteArray → Bool → Bool → Option (Int × Bool)
 | 0, _, _, _ => none
 | k + 1, x0, x4, x41 => if x41 = true then (some (0, false)) else (cellarerref13_Number64.l1 k x0 x4 0 0)
def cellarerref13_Number64.l1 : Nat → ByteArray → Bool → Int → Int → Option (Int × Bool)
 | 0, _, _, _, _ => none
 | k + 1, x0, x4, x6, x7 => if x7 < (x0.size : Int) then (if 0 ≤ x7 then (cellarerref13_Number64.l1 k x0 x4 (wrap64 ((wrap64 (10 * x6)) - (((bt x0 x7) - 48) % 256))) (wrap64 (x7 + 1))) else (none)) else (if x4 = true then (some (x6, true)) else (some (wrap64 (-x6), true)))
def cellarerref13_Number64.l0 : Nat → ByteArray → Bool → Option (Int × Bool)
 | 0, _, _ => none
 | k + 1, x0, x4 => if (x0.size : Int) > 1 then (if 0 < (x0.size : Int) then (if (bt x0 0) = 48 then (if 1 ≤ (x0.size : Int) then ((some (x0.extract 1 x0.size)).bind fun bz230 => (cellarerref13_Number64.l0 k bz230 x4)) else (none)) else (cellarerref13_Number64.j2 k x0 x4)) else (none)) else (cellarerref13_Number64.j2 k x0 x4)
end
def cellarerref13_Number64.f (k : Nat) (a0 : ByteArray) : Option (Int × Bool) := if 0 < (a0.size : Int) then ((some (((bt a0 0) == 45))).bind fun bz228 => (if bz228 = true then (if 1 ≤ (a0.size : Int) then ((some (a0.extract 1 a0.size)).bind fun bz229 => (cellarerref13_Number64.j0 k bz229 bz228)) else (none)) else (cellarerref13_Number64.j0 k a0 bz228))) else (none)
theorem cellarerref13_Number64.mono_l : ∀ k, (∀ y0 y1, LeO (cellarerref13_Number64.j0 k y0 y1) (cellarerref13_Number64.j0 (k + 1) y0 y1)) ∧ (∀ y0 y1, LeO (cellarerref13_Number64.j2 k y0 y1) (cellarerref13_Number64.j2 (k + 1) y0 y1)) ∧ (∀ y0 y1 y2, LeO (cellarerref13_Number64.j3 k y0 y1 y2) (cellarerref13_Number64.j3 (k + 1) y0 y1 y2)) ∧ (∀ y0 y1 y2, LeO (cellarerref13_Number64.j4 k y0 y1 y2) (cellarerref13_Number64.j4 (k + 1) y0 y1 y2)) ∧ (∀ y0 y1 y2 y3, LeO (cellarerref13_Number64.l1 k y0 y1 y2 y3) (cellarerref13_Number64.l1 (k + 1) y0 y1 y2 y3)) ∧ (∀ y0 y1, LeO (cellarerref13_Number64.l0 k y0 y1) (cellarerref13_Number64.l0 (k + 1) y0 y1))
 | 0 => ⟨fun _ _ r h => by simp [cellarerref13_Number64.j0] at h, fun _ _ r h => by simp [cellarerref13_Number64.j2] at h, fun _ _ _ r h => by simp [cellarerref13_Number64.j3] at h, fun _ _ _ r h => by simp [cellarerref13_Number64.j4] at h, fun _ _ _ _ r h => by simp [cellarerref13_Number64.l1] at h, fun _ _ r h => by simp [cellarerref13_Number64.l0] at h⟩
 | k + 1 => by
  obtain ⟨ih0, ih1, ih2, ih3, ih4, ih5⟩ := cellarerref13_Number64.mono_l k
  refine ⟨?_, ?_, ?_, ?_, ?_, ?_⟩
  all_goals (intros; first | unfold cellarerref13_Number64.j0 | unfold cellarerref13_Number64.j2 | unfold cellarerref13_Number64.j3 | unfold cellarerref13_Number64.j4 | unfold cellarerref13_Number64.l1 | unfold cellarerref13_Number64.l0)
  all_goals repeat' first
   | (with_reducible exact ih0 _ _)
   | (with_reducible exact ih1 _ _)
   | (with_reducible exact ih2 _ _ _)
   | (with_reducible exact ih3 _ _ _)
   | (with_reducible exact ih4 _ _ _ _)
   | (with_reducible exact ih5 _ _)
   | (with_reducible exact LeO.refl _)
   | (with_reducible exact LeO.none _)
   | (with_reducible refine LeO.ite ?_ ?_)
   | (with_reducible refine LeO.bind ?_ (fun _ => ?_))
   | exact ih0 _ _
   | exact ih1 _ _
   | exact ih2 _ _ _
   | exact ih3 _ _ _
   | exact ih4 _ _ _ _
   | exact ih5 _ _
   | exact LeO.none _
   | refine LeO.ite ?_ ?_
   | refine LeO.bind ?_ (fun _ => ?_)
theorem cellarerref13_Number64.mono : ∀ a0 k, LeO (cellarerref13_Number64.f k a0) (cellarerref13_Number64.f (k + 1) a0) := by
 intro a0 k
 obtain ⟨ih0, ih1, ih2, ih3, ih4, ih5⟩ := cellarerref13_Number64.mono_l k
 unfold cellarerref13_Number64.f
 repeat' first
   | (with_reducible exact ih0 _ _)
   | (with_reducible exact ih1 _ _)
   | (with_reducible exact ih2 _ _ _)
   | (with_reducible exact ih3 _ _ _)
   | (with_reducible exact ih4 _ _ _ _)
   | (with_reducible exact ih5 _ _)
   | (with_reducible exact LeO.refl _)
   | (with_reducible exact LeO.none _)
   | (with_reducible refine LeO.ite ?_ ?_)
   | (with_reducible refine LeO.bind ?_ (fun _ => ?_))
   | exact ih0 _ _
   | exact ih1 _ _
   | exact ih2 _ _ _
   | exact ih3 _ _ _
   | exact ih4 _ _ _ _
   | exact ih5 _ _
   | exact LeO.none _
   | refine LeO.ite ?_ ?_
   | refine LeO.bind ?_ (fun _ => ?_)
/-! ### cellarerref13_sign: function 44 -/
def cellarerref13_sign.j0 : Nat → ByteArray → Int → List ByteArray → Bool → Option (ByteArray)
 | 0, _, _, _, _ => none
 | k + 1, x0, x1, x6, x22 => if x22 = true then (if 0 ≤ x1 then (if x1 ≤ (wrap64 (x1 + 2)) then (if (wrap64 (x1 + 2)) ≤ (x0.size : Int) then (some (x0.extract (x1 : Int).toNat ((wrap64 (x1 + 2)) : Int).toNat)) else (none)) else (none)) else (none)) else (if 0 ≤ x1 then (if x1 ≤ (wrap64 (x1 + 1)) then (if (wrap64 (x1 + 1)) ≤ (x0.size : Int) then ((cellarerref13_in.f k x6 (x0.extract (x1 : Int).toNat ((wrap64 (x1 + 1)) : Int).toNat)).bind fun t238 => (if t238 = true then (some (x0.extract (x1 : Int).toNat ((wrap64 (x1 + 1)) : Int).toNat)) else (some (⟨#[]⟩ : ByteArray)))) else (none)) else (none)) else (none))
def cellarerref13_sign.f (k : Nat) (a0 : ByteArray) (a1 : Int) : Option (ByteArray) := (some (([(⟨#[40]⟩ : ByteArray), (⟨#[41]⟩ : ByteArray), (⟨#[44]⟩ : ByteArray), (⟨#[124]⟩ : ByteArray), (⟨#[61]⟩ : ByteArray), (⟨#[58]⟩ : ByteArray), (⟨#[60]⟩ : ByteArray), (⟨#[43]⟩ : ByteArray), (⟨#[45]⟩ : ByteArray), (⟨#[42]⟩ : ByteArray), (⟨#[47]⟩ : ByteArray), (⟨#[37]⟩ : ByteArray), (⟨#[95]⟩ : ByteArray)] : List ByteArray) : List ByteArray)).bind fun y234 => (if (wrap64 (a1 + 2)) ≤ (a0.size : Int) then (if 0 ≤ a1 then (if a1 ≤ (wrap64 (a1 + 2)) then ((cellarerref13_in.f k (([(⟨#[61, 61]⟩ : ByteArray), (⟨#[45, 62]⟩ : ByteArray), (⟨#[60, 61]⟩ : ByteArray)] : List ByteArray)) (a0.extract (a1 : Int).toNat ((wrap64 (a1 + 2)) : Int).toNat)).bind fun t237 => (cellarerref13_sign.j0 k a0 a1 y234 t237)) else (none)) else (none)) else (cellarerref13_sign.j0 k a0 a1 y234 false))
theorem cellarerref13_sign.mono_l : ∀ k, (∀ y0 y1 y2 y3, LeO (cellarerref13_sign.j0 k y0 y1 y2 y3) (cellarerref13_sign.j0 (k + 1) y0 y1 y2 y3))
 | 0 => fun _ _ _ _ r h => by simp [cellarerref13_sign.j0] at h
 | k + 1 => by
  have ih0 := cellarerref13_sign.mono_l k
  ·intro y0 y1 y2 y3
   unfold cellarerref13_sign.j0
   repeat' first
   | (with_reducible exact ih0 _ _ _ _)
   | (with_reducible exact cellarerref13_in.mono _ _ _)
   | (with_reducible exact LeO.refl _)
   | (with_reducible exact LeO.none _)
   | (with_reducible refine LeO.ite ?_ ?_)
   | (with_reducible refine LeO.bind ?_ (fun _ => ?_))
   | exact ih0 _ _ _ _
   | exact cellarerref13_in.mono _ _ _
   | exact LeO.none _
   | refine LeO.ite ?_ ?_
   | refine LeO.bind ?_ (fun _ => ?_)
theorem cellarerref13_sign.mono : ∀ a0 a1 k, LeO (cellarerref13_sign.f k a0 a1) (cellarerref13_sign.f (k + 1) a0 a1) := by
 intro a0 a1 k
 have ih0 := cellarerref13_sign.mono_l k
 unfold cellarerref13_sign.f
 repeat' first
   | (with_reducible exact ih0 _ _ _ _)
   | (with_reducible exact cellarerref13_in.mono _ _ _)
   | (with_reducible exact LeO.refl _)
   | (with_reducible exact LeO.none _)
   | (with_reducible refine LeO.ite ?_ ?_)
   | (with_reducible refine LeO.bind ?_ (fun _ => ?_))
   | exact ih0 _ _ _ _
   | exact cellarerref13_in.mono _ _ _
   | exact LeO.none _
   | refine LeO.ite ?_ ?_
   | refine LeO.bind ?_ (fun _ => ?_)
/-! ### cellarerref13_next: function 30 -/
mutual
def cellarerref13_next.j0 : Nat → ByteArray → Int → Int → Bool → Option (Int × ByteArray × Int × Int × Int × Int)
 | 0, _, _, _, _ => none
 | k + 1, x0, x1, x9, x10 => if x10 = true then ((cellarerref13_run.f k x0 (wrap64 (x1 + 1)) true).bind fun t243 => (if 0 ≤ x1 then (if x1 ≤ t243 then (if t243 ≤ (x0.size : Int) then ((cellarerref13_Number64.f k (x0.extract (x1 : Int).toNat (t243 : Int).toNat)).bind fun bt244 => (if bt244.2 = true then (if t243 < (x0.size : Int) then (if 0 ≤ t243 then ((cellarerref13_part.f (bt x0 t243)).bind fun t246 => (if t246 = true then (some (0, (⟨#[]⟩ : ByteArray), 0, 0, t243, 4)) else (some (3, x0.extract (x1 : Int).toNat (t243 : Int).toNat, x1, t243, 0, 0)))) else (none)) else (some (3, x0.extract (x1 : Int).toNat (t243 : Int).toNat, x1, t243, 0, 0))) else (some (0, (⟨#[]⟩ : ByteArray), 0, 0, x1, 2)))) else (none)) else (none)) else (none))) else (if x9 = 95 then (cellarerref13_next.j1 k x0 x1 x9 false) else ((cellarerref13_part.f x9).bind fun t247 => (cellarerref13_next.j1 k x0 x1 x9 t247)))
def cellarerref13_next.j1 : Nat → ByteArray → Int → Int → Bool → Option (Int × ByteArray × Int × Int × Int × Int)
 | 0, _, _, _, _ => none
 | k + 1, x0, x1, x9, x82 => if x82 = true then ((cellarerref13_run.f k x0 x1 false).bind fun t248 => (if (wrap64 (t248 - x1)) > 32 then (some (0, (⟨#[]⟩ : ByteArray), 0, 0, x1, 5)) else (if 0 ≤ x1 then (if x1 ≤ t248 then (if t248 ≤ (x0.size : Int) then ((cellarerref13_upper.f x9).bind fun t250 => (if t250 = true then (some (2, x0.extract (x1 : Int).toNat (t248 : Int).toNat, x1, t248, 0, 0)) else ((cellarerref13_Keyword.f k (x0.extract (x1 : Int).toNat (t248 : Int).toNat)).bind fun t251 => (if t251 = true then (some (5, x0.extract (x1 : Int).toNat (t248 : Int).toNat, x1, t248, 0, 0)) else (some (1, x0.extract (x1 : Int).toNat (t248 : Int).toNat, x1, t248, 0, 0)))))) else (none)) else (none)) else (none)))) else ((cellarerref13_sign.f k x0 x1).bind fun t252 => (if t252.toList = ([] : List UInt8) then (some (0, (⟨#[]⟩ : ByteArray), 0, 0, x1, 4)) else (if t252.toList = ([95] : List UInt8) then (if (wrap64 (x1 + 1)) < (x0.size : Int) then (if 0 ≤ (wrap64 (x1 + 1)) then ((cellarerref13_part.f (bt x0 (wrap64 (x1 + 1)))).bind fun t253 => (if t253 = true then (some (0, (⟨#[]⟩ : ByteArray), 0, 0, x1, 4)) else (some (4, t252, x1, wrap64 (x1 + (t252.size : Int)), 0, 0)))) else (none)) else (some (4, t252, x1, wrap64 (x1 + (t252.size : Int)), 0, 0))) else (some (4, t252, x1, wrap64 (x1 + (t252.size : Int)), 0, 0)))))
end
def cellarerref13_next.f (k : Nat) (a0 : ByteArray) (a1 : Int) (l2 : List (S41)) : Option (Int × ByteArray × Int × Int × Int × Int) := if 0 ≤ a1 then (if a1 < (a0.size : Int) then ((cellarerref13_digit.f (bt a0 a1)).bind fun t240 => (if t240 = true then (cellarerref13_next.j0 k a0 a1 (bt a0 a1) true) else (if (bt a0 a1) = 45 then (if (wrap64 (a1 + 1)) < (a0.size : Int) then (if 0 ≤ (wrap64 (a1 + 1)) then ((cellarerref13_digit.f (bt a0 (wrap64 (a1 + 1)))).bind fun t241 => (if t241 = true then ((cellarerref13_signed.f k l2).bind fun t242 => (cellarerref13_next.j0 k a0 a1 (bt a0 a1) t242)) else (cellarerref13_next.j0 k a0 a1 (bt a0 a1) false))) else (none)) else (cellarerref13_next.j0 k a0 a1 (bt a0 a1) false)) else (cellarerref13_next.j0 k a0 a1 (bt a0 a1) false)))) else (none)) else (none)
theorem cellarerref13_next.mono_l : ∀ k, (∀ y0 y1 y2 y3, LeO (cellarerref13_next.j0 k y0 y1 y2 y3) (cellarerref13_next.j0 (k + 1) y0 y1 y2 y3)) ∧ (∀ y0 y1 y2 y3, LeO (cellarerref13_next.j1 k y0 y1 y2 y3) (cellarerref13_next.j1 (k + 1) y0 y1 y2 y3))
 | 0 => ⟨fun _ _ _ _ r h => by simp [cellarerref13_next.j0] at h, fun _ _ _ _ r h => by simp [cellarerref13_next.j1] at h⟩
 | k + 1 => by
  obtain ⟨ih0, ih1⟩ := cellarerref13_next.mono_l k
  refine ⟨?_, ?_⟩
  all_goals (intros; first | unfold cellarerref13_next.j0 | unfold cellarerref13_next.j1)
  all_goals repeat' first
   | (with_reducible exact ih0 _ _ _ _)
   | (with_reducible exact ih1 _ _ _ _)
   | (with_reducible exact cellarerref13_Keyword.mono _ _)
   | (with_reducible exact cellarerref13_Number64.mono _ _)
   | (with_reducible exact cellarerref13_run.mono _ _ _ _)
   | (with_reducible exact cellarerref13_sign.mono _ _ _)
   | (with_reducible exact cellarerref13_signed.mono _ _)
   | (with_reducible exact LeO.refl _)
   | (with_reducible exact LeO.none _)
   | (with_reducible refine LeO.ite ?_ ?_)
   | (with_reducible refine LeO.bind ?_ (fun _ => ?_))
   | exact ih0 _ _ _ _
   | exact ih1 _ _ _ _
   | exact cellarerref13_Keyword.mono _ _
   | exact cellarerref13_Number64.mono _ _
   | exact cellarerref13_run.mono _ _ _ _
   | exact cellarerref13_sign.mono _ _ _
   | exact cellarerref13_signed.mono _ _
   | exact LeO.none _
   | refine LeO.ite ?_ ?_
   | refine LeO.bind ?_ (fun _ => ?_)
theorem cellarerref13_next.mono : ∀ a0 a1 a2 k, LeO (cellarerref13_next.f k a0 a1 a2) (cellarerref13_next.f (k + 1) a0 a1 a2) := by
 intro a0 a1 a2 k
 obtain ⟨ih0, ih1⟩ := cellarerref13_next.mono_l k
 unfold cellarerref13_next.f
 repeat' first
   | (with_reducible exact ih0 _ _ _ _)
   | (with_reducible exact ih1 _ _ _ _)
   | (with_reducible exact cellarerref13_Keyword.mono _ _)
   | (with_reducible exact cellarerref13_Number64.mono _ _)
   | (with_reducible exact cellarerref13_run.mono _ _ _ _)
   | (with_reducible exact cellarerref13_sign.mono _ _ _)
   | (with_reducible exact cellarerref13_signed.mono _ _)
   | (with_reducible exact LeO.refl _)
   | (with_reducible exact LeO.none _)
   | (with_reducible refine LeO.ite ?_ ?_)
   | (with_reducible refine LeO.bind ?_ (fun _ => ?_))
   | exact ih0 _ _ _ _
   | exact ih1 _ _ _ _
   | exact cellarerref13_Keyword.mono _ _
   | exact cellarerref13_Number64.mono _ _
   | exact cellarerref13_run.mono _ _ _ _
   | exact cellarerref13_sign.mono _ _ _
   | exact cellarerref13_signed.mono _ _
   | exact LeO.none _
   | refine LeO.ite ?_ ?_
   | refine LeO.bind ?_ (fun _ => ?_)
/-! ### cellarerref13_Scan: function 12 -/
mutual
def cellarerref13_Scan.l0 : Nat → ByteArray → Int → Option ((List (S41)) × (List (S33)) × Int × Int)
 | 0, _, _ => none
 | k + 1, x0, x6 => if x6 < (x0.size : Int) then (if 0 ≤ x6 then ((cellarerref13_white.f (bt x0 x6)).bind fun t254 => (if t254 = true then (cellarerref13_Scan.l0 k x0 (wrap64 (x6 + 1))) else (if (bt x0 x6) < 32 then (some (([] : List (S41)), ([] : List (S33)), x6, 25)) else (if (bt x0 x6) > 126 then (some (([] : List (S41)), ([] : List (S33)), x6, 25)) else (cellarerref13_Scan.l0 k x0 (wrap64 (x6 + 1))))))) else (none)) else (cellarerref13_Scan.l1 k x0 ([] : List (S41)) ([] : List (S33)) 0)
def cellarerref13_Scan.l1 : Nat → ByteArray → List (S41) → List (S33) → Int → Option ((List (S41)) × (List (S33)) × Int × Int)
 | 0, _, _, _, _ => none
 | k + 1, x0, x7, x8, x9 => if x9 < (x0.size : Int) then (if 0 ≤ x9 then ((cellarerref13_white.f (bt x0 x9)).bind fun t258 => (if t258 = true then (cellarerref13_Scan.l1 k x0 x7 x8 (wrap64 (x9 + 1))) else (if (wrap64 (x9 + 1)) < (x0.size : Int) then (if x9 ≤ (wrap64 (x9 + 2)) then (if (wrap64 (x9 + 2)) ≤ (x0.size : Int) then (cellarerref13_Scan.j2 k x0 x7 x8 x9 ((x0.extract (x9 : Int).toNat ((wrap64 (x9 + 2)) : Int).toNat).toList == ([45, 45] : List UInt8))) else (none)) else (none)) else (cellarerref13_Scan.j2 k x0 x7 x8 x9 false)))) else (none)) else (if x7.length < 3518437208883 then (some ((x7 ++ [(⟨6, (⟨#[]⟩ : ByteArray), (⟨x9, x9⟩ : S33)⟩ : S41)]), x8, 0, 0)) else (none))
def cellarerref13_Scan.j2 : Nat → ByteArray → List (S41) → List (S33) → Int → Bool → Option ((List (S41)) × (List (S33)) × Int × Int)
 | 0, _, _, _, _, _ => none
 | k + 1, x0, x7, x8, x9, x63 => if x63 = true then (cellarerref13_Scan.l2 k x0 x7 x8 x9 x9) else ((cellarerref13_next.f k x0 x9 x7).bind fun bt265 => (if bt265.2.2.2.2.2 = 0 then (if x7.length < 3518437208883 then (cellarerref13_Scan.l1 k x0 (x7 ++ [(⟨bt265.1, bt265.2.1, (⟨bt265.2.2.1, bt265.2.2.2.1⟩ : S33)⟩ : S41)]) x8 bt265.2.2.2.1) else (none)) else (some (([] : List (S41)), ([] : List (S33)), bt265.2.2.2.2.1, bt265.2.2.2.2.2))))
def cellarerref13_Scan.l2 : Nat → ByteArray → List (S41) → List (S33) → Int → Int → Option ((List (S41)) × (List (S33)) × Int × Int)
 | 0, _, _, _, _, _ => none
 | k + 1, x0, x7, x8, x9, x10 => if x9 < (x0.size : Int) then (if 0 ≤ x9 then (if (bt x0 x9) = 10 then (if x8.length < 8796093022208 then (cellarerref13_Scan.l1 k x0 x7 (x8 ++ [(⟨x10, x9⟩ : S33)]) x9) else (none)) else (cellarerref13_Scan.l2 k x0 x7 x8 (wrap64 (x9 + 1)) x10)) else (none)) else (if x8.length < 8796093022208 then (cellarerref13_Scan.l1 k x0 x7 (x8 ++ [(⟨x10, x9⟩ : S33)]) x9) else (none))
end
def cellarerref13_Scan.f (k : Nat) (a0 : ByteArray) : Option ((List (S41)) × (List (S33)) × Int × Int) := if (a0.size : Int) > 65536 then (some (([] : List (S41)), ([] : List (S33)), 0, 5)) else (cellarerref13_Scan.l0 k a0 0)
theorem cellarerref13_Scan.mono_l : ∀ k, (∀ y0 y1, LeO (cellarerref13_Scan.l0 k y0 y1) (cellarerref13_Scan.l0 (k + 1) y0 y1)) ∧ (∀ y0 y1 y2 y3, LeO (cellarerref13_Scan.l1 k y0 y1 y2 y3) (cellarerref13_Scan.l1 (k + 1) y0 y1 y2 y3)) ∧ (∀ y0 y1 y2 y3 y4, LeO (cellarerref13_Scan.j2 k y0 y1 y2 y3 y4) (cellarerref13_Scan.j2 (k + 1) y0 y1 y2 y3 y4)) ∧ (∀ y0 y1 y2 y3 y4, LeO (cellarerref13_Scan.l2 k y0 y1 y2 y3 y4) (cellarerref13_Scan.l2 (k + 1) y0 y1 y2 y3 y4))
 | 0 => ⟨fun _ _ r h => by simp [cellarerref13_Scan.l0] at h, fun _ _ _ _ r h => by simp [cellarerref13_Scan.l1] at h, fun _ _ _ _ _ r h => by simp [cellarerref13_Scan.j2] at h, fun _ _ _ _ _ r h => by simp [cellarerref13_Scan.l2] at h⟩
 | k + 1 => by
  obtain ⟨ih0, ih1, ih2, ih3⟩ := cellarerref13_Scan.mono_l k
  refine ⟨?_, ?_, ?_, ?_⟩
  all_goals (intros; first | unfold cellarerref13_Scan.l0 | unfold cellarerref13_Scan.l1 | unfold cellarerref13_Scan.j2 | unfold cellarerref13_Scan.l2)
  all_goals repeat' first
   | (with_reducible exact ih0 _ _)
   | (with_reducible exact ih1 _ _ _ _)
   | (with_reducible exact ih2 _ _ _ _ _)
   | (with_reducible exact ih3 _ _ _ _ _)
   | (with_reducible exact cellarerref13_next.mono _ _ _ _)
   | (with_reducible exact LeO.refl _)
   | (with_reducible exact LeO.none _)
   | (with_reducible refine LeO.ite ?_ ?_)
   | (with_reducible refine LeO.bind ?_ (fun _ => ?_))
   | exact ih0 _ _
   | exact ih1 _ _ _ _
   | exact ih2 _ _ _ _ _
   | exact ih3 _ _ _ _ _
   | exact cellarerref13_next.mono _ _ _ _
   | exact LeO.none _
   | refine LeO.ite ?_ ?_
   | refine LeO.bind ?_ (fun _ => ?_)
theorem cellarerref13_Scan.mono : ∀ a0 k, LeO (cellarerref13_Scan.f k a0) (cellarerref13_Scan.f (k + 1) a0) := by
 intro a0 k
 obtain ⟨ih0, ih1, ih2, ih3⟩ := cellarerref13_Scan.mono_l k
 unfold cellarerref13_Scan.f
 repeat' first
   | (with_reducible exact ih0 _ _)
   | (with_reducible exact ih1 _ _ _ _)
   | (with_reducible exact ih2 _ _ _ _ _)
   | (with_reducible exact ih3 _ _ _ _ _)
   | (with_reducible exact cellarerref13_next.mono _ _ _ _)
   | (with_reducible exact LeO.refl _)
   | (with_reducible exact LeO.none _)
   | (with_reducible refine LeO.ite ?_ ?_)
   | (with_reducible refine LeO.bind ?_ (fun _ => ?_))
   | exact ih0 _ _
   | exact ih1 _ _ _ _
   | exact ih2 _ _ _ _ _
   | exact ih3 _ _ _ _ _
   | exact cellarerref13_next.mono _ _ _ _
   | exact LeO.none _
   | refine LeO.ite ?_ ?_
   | refine LeO.bind ?_ (fun _ => ?_)
/-! ### cellarerlaw13_same: function 13 -/
def cellarerlaw13_same.l0 : Nat → List (S36) → List (S41) → Int → Option (Bool)
 | 0, _, _, _ => none
 | k + 1, x0, x1, x5 => if x5 < (x0.length : Int) then (if 0 ≤ x5 then (if x5 < (x1.length : Int) then (if ((rd_T36 x0 x5).f0) = ((rd_T41 x1 x5).f0) then (if ((rd_T36 x0 x5).f1).toList = ((rd_T41 x1 x5).f1).toList then (if (!(((rd_T36 x0 x5).f2.f0) == ((rd_T41 x1 x5).f2.f0)) || (!(((rd_T36 x0 x5).f2.f1) == ((rd_T41 x1 x5).f2.f1)))) = true then (some false) else (cellarerlaw13_same.l0 k x0 x1 (wrap64 (x5 + 1)))) else (some false)) else (some false)) else (none)) else (none)) else (some true)
def cellarerlaw13_same.f (k : Nat) (l0 : List (S36)) (l1 : List (S41)) : Option (Bool) := if (l0.length : Int) = (l1.length : Int) then (cellarerlaw13_same.l0 k l0 l1 0) else (some false)
theorem cellarerlaw13_same.mono_l : ∀ k, (∀ y0 y1 y2, LeO (cellarerlaw13_same.l0 k y0 y1 y2) (cellarerlaw13_same.l0 (k + 1) y0 y1 y2))
 | 0 => fun _ _ _ r h => by simp [cellarerlaw13_same.l0] at h
 | k + 1 => by
  have ih0 := cellarerlaw13_same.mono_l k
  ·intro y0 y1 y2
   unfold cellarerlaw13_same.l0
   repeat' first
   | (with_reducible exact ih0 _ _ _)
   | (with_reducible exact LeO.refl _)
   | (with_reducible exact LeO.none _)
   | (with_reducible refine LeO.ite ?_ ?_)
   | (with_reducible refine LeO.bind ?_ (fun _ => ?_))
   | exact ih0 _ _ _
   | exact LeO.none _
   | refine LeO.ite ?_ ?_
   | refine LeO.bind ?_ (fun _ => ?_)
theorem cellarerlaw13_same.mono : ∀ a0 a1 k, LeO (cellarerlaw13_same.f k a0 a1) (cellarerlaw13_same.f (k + 1) a0 a1) := by
 intro a0 a1 k
 have ih0 := cellarerlaw13_same.mono_l k
 unfold cellarerlaw13_same.f
 repeat' first
   | (with_reducible exact ih0 _ _ _)
   | (with_reducible exact LeO.refl _)
   | (with_reducible exact LeO.none _)
   | (with_reducible refine LeO.ite ?_ ?_)
   | (with_reducible refine LeO.bind ?_ (fun _ => ?_))
   | exact ih0 _ _ _
   | exact LeO.none _
   | refine LeO.ite ?_ ?_
   | refine LeO.bind ?_ (fun _ => ?_)
/-! ### cellarerlaw13_TokenScans: function 3 -/
mutual
def cellarerlaw13_TokenScans.j0 : Nat → List (S33) → List (S33) → Bool → Option (Bool)
 | 0, _, _, _ => none
 | k + 1, x4, x8, x51 => if x51 = true then (some false) else (cellarerlaw13_TokenScans.l0 k x4 x8 0)
def cellarerlaw13_TokenScans.l0 : Nat → List (S33) → List (S33) → Int → Option (Bool)
 | 0, _, _, _ => none
 | k + 1, x4, x8, x11 => if x11 < (x4.length : Int) then (if 0 ≤ x11 then (if x11 < (x8.length : Int) then (if (!(((rd_T33 x4 x11).f0) == ((rd_T33 x8 x11).f0)) || (!(((rd_T33 x4 x11).f1) == ((rd_T33 x8 x11).f1)))) = true then (some false) else (cellarerlaw13_TokenScans.l0 k x4 x8 (wrap64 (x11 + 1)))) else (none)) else (none)) else (some true)
end
def cellarerlaw13_TokenScans.f (k : Nat) (a0 : ByteArray) : Option (Bool) := (cellarerlaw13_awake.f k).bind fun t281 => (if t281 = true then (if (a0.size : Int) > 1000 then (some true) else ((token_Scan.f k a0).bind fun bt282 => ((cellarerref13_Scan.f k a0).bind fun bt290 => (if bt282.2.2.2 = bt290.2.2.2 then (if bt282.2.2.1 = bt290.2.2.1 then ((cellarerlaw13_same.f k bt282.1 bt290.1).bind fun t298 => (if t298 = true then (cellarerlaw13_TokenScans.j0 k bt282.2.1 bt290.2.1 ((bt282.2.1.length : Int) != (bt290.2.1.length : Int))) else (cellarerlaw13_TokenScans.j0 k bt282.2.1 bt290.2.1 true))) else (cellarerlaw13_TokenScans.j0 k bt282.2.1 bt290.2.1 true)) else (cellarerlaw13_TokenScans.j0 k bt282.2.1 bt290.2.1 true))))) else (some false))
theorem cellarerlaw13_TokenScans.mono_l : ∀ k, (∀ y0 y1 y2, LeO (cellarerlaw13_TokenScans.j0 k y0 y1 y2) (cellarerlaw13_TokenScans.j0 (k + 1) y0 y1 y2)) ∧ (∀ y0 y1 y2, LeO (cellarerlaw13_TokenScans.l0 k y0 y1 y2) (cellarerlaw13_TokenScans.l0 (k + 1) y0 y1 y2))
 | 0 => ⟨fun _ _ _ r h => by simp [cellarerlaw13_TokenScans.j0] at h, fun _ _ _ r h => by simp [cellarerlaw13_TokenScans.l0] at h⟩
 | k + 1 => by
  obtain ⟨ih0, ih1⟩ := cellarerlaw13_TokenScans.mono_l k
  refine ⟨?_, ?_⟩
  all_goals (intros; first | unfold cellarerlaw13_TokenScans.j0 | unfold cellarerlaw13_TokenScans.l0)
  all_goals repeat' first
   | (with_reducible exact ih0 _ _ _)
   | (with_reducible exact ih1 _ _ _)
   | (with_reducible exact cellarerlaw13_awake.mono _)
   | (with_reducible exact cellarerlaw13_same.mono _ _ _)
   | (with_reducible exact cellarerref13_Scan.mono _ _)
   | (with_reducible exact token_Scan.mono _ _)
   | (with_reducible exact LeO.refl _)
   | (with_reducible exact LeO.none _)
   | (with_reducible refine LeO.ite ?_ ?_)
   | (with_reducible refine LeO.bind ?_ (fun _ => ?_))
   | exact ih0 _ _ _
   | exact ih1 _ _ _
   | exact cellarerlaw13_awake.mono _
   | exact cellarerlaw13_same.mono _ _ _
   | exact cellarerref13_Scan.mono _ _
   | exact token_Scan.mono _ _
   | exact LeO.none _
   | refine LeO.ite ?_ ?_
   | refine LeO.bind ?_ (fun _ => ?_)
theorem cellarerlaw13_TokenScans.mono : ∀ a0 k, LeO (cellarerlaw13_TokenScans.f k a0) (cellarerlaw13_TokenScans.f (k + 1) a0) := by
 intro a0 k
 obtain ⟨ih0, ih1⟩ := cellarerlaw13_TokenScans.mono_l k
 unfold cellarerlaw13_TokenScans.f
 repeat' first
   | (with_reducible exact ih0 _ _ _)
   | (with_reducible exact ih1 _ _ _)
   | (with_reducible exact cellarerlaw13_awake.mono _)
   | (with_reducible exact cellarerlaw13_same.mono _ _ _)
   | (with_reducible exact cellarerref13_Scan.mono _ _)
   | (with_reducible exact token_Scan.mono _ _)
   | (with_reducible exact LeO.refl _)
   | (with_reducible exact LeO.none _)
   | (with_reducible refine LeO.ite ?_ ?_)
   | (with_reducible refine LeO.bind ?_ (fun _ => ?_))
   | exact ih0 _ _ _
   | exact ih1 _ _ _
   | exact cellarerlaw13_awake.mono _
   | exact cellarerlaw13_same.mono _ _ _
   | exact cellarerref13_Scan.mono _ _
   | exact token_Scan.mono _ _
   | exact LeO.none _
   | refine LeO.ite ?_ ?_
   | refine LeO.bind ?_ (fun _ => ?_)
/-- THE ONE PURE STATEMENT of cellarerlaw13_TokenScans: yours. -/
def cellarerlaw13_TokenScans.Pure : Prop := ∀ (a0 : ByteArray), a0.size ≤ 140737488351232 → ∃ k, cellarerlaw13_TokenScans.f k a0 = some true
end Go.Proofs.YtenjbcjekjmaeaaDoor.PTok
