-- Written by a program of this session's (xprint.py) over the kit's print.
import Derived.Test.YtenjbcjekjmaeaaDoorPTokD
namespace Go.Proofs.YtenjbcjekjmaeaaDoor.PTok
open Go.RowKit Go.Proofs.YtenjbcjekjmaeaaDoor.Ext Go.Proofs.YtenjbcjekjmaeaaDoorW.PrintWords Go.Proofs.YtenjbcjekjmaeaaDoorW.PrintLast
attribute [local go_sem high] gtr_print leq_print
set_option linter.unusedVariables false
set_option linter.unusedSimpArgs false

/-! ### cellarerlaw13_TokenWords: function 4 -/
def cellarerlaw13_TokenWords.f (k : Nat) (a0 : ByteArray) : Option (Bool) := (cellarerlaw13_awake.f k).bind fun t301 => (if t301 = true then (if (a0.size : Int) > 100 then (some true) else ((token_Keyword.f a0).bind fun t302 => ((cellarerref13_Keyword.f k a0).bind fun t303 => (some (t302 == t303))))) else (some false))
theorem cellarerlaw13_TokenWords.mono : ∀ a0 k, LeO (cellarerlaw13_TokenWords.f k a0) (cellarerlaw13_TokenWords.f (k + 1) a0) := by
 intro a0 k
 unfold cellarerlaw13_TokenWords.f
 repeat' first
   | (with_reducible exact cellarerlaw13_awake.mono _)
   | (with_reducible exact cellarerref13_Keyword.mono _ _)
   | (with_reducible exact LeO.refl _)
   | (with_reducible exact LeO.none _)
   | (with_reducible refine LeO.ite ?_ ?_)
   | (with_reducible refine LeO.bind ?_ (fun _ => ?_))
   | exact cellarerlaw13_awake.mono _
   | exact cellarerref13_Keyword.mono _ _
   | exact LeO.none _
   | refine LeO.ite ?_ ?_
   | refine LeO.bind ?_ (fun _ => ?_)
/-- THE ONE PURE STATEMENT of cellarerlaw13_TokenWords: yours. -/
def cellarerlaw13_TokenWords.Pure : Prop := ∀ (a0 : ByteArray), a0.size ≤ 140737488351232 → ∃ k, cellarerlaw13_TokenWords.f k a0 = some true
/-! ### cellarerlaw13_TokenCovers: function 5 -/
mutual
def cellarerlaw13_TokenCovers.l0 : Nat → ByteArray → List (S36) → List (S33) → Int → Int → Int → Option (Bool)
 | 0, _, _, _, _, _, _ => none
 | k + 1, x0, x3, x4, x7, x8, x9 => if x9 < (x0.size : Int) then (if x7 < (x3.length : Int) then (if 0 ≤ x7 then (if ((rd_T36 x3 x7).f2.f0) = x9 then (if ((rd_T36 x3 x7).f2.f1) > x9 then (if ((rd_T36 x3 x7).f2.f1) ≤ (x0.size : Int) then (if 0 ≤ x9 then (if x9 ≤ ((rd_T36 x3 x7).f2.f1) then (cellarerlaw13_TokenCovers.j1 k x0 x3 x4 x7 x8 x9 (((rd_T36 x3 x7).f1).toList == (x0.extract (x9 : Int).toNat (((rd_T36 x3 x7).f2.f1) : Int).toNat).toList)) else (none)) else (none)) else (cellarerlaw13_TokenCovers.j1 k x0 x3 x4 x7 x8 x9 false)) else (cellarerlaw13_TokenCovers.j1 k x0 x3 x4 x7 x8 x9 false)) else (cellarerlaw13_TokenCovers.j1 k x0 x3 x4 x7 x8 x9 false)) else (none)) else (cellarerlaw13_TokenCovers.j1 k x0 x3 x4 x7 x8 x9 false)) else (if x7 = (wrap64 ((x3.length : Int) - 1)) then (if x8 = (x4.length : Int) then (if 0 ≤ x7 then (if x7 < (x3.length : Int) then (if ((rd_T36 x3 x7).f0) = 6 then (if ((rd_T36 x3 x7).f1).toList = ([] : List UInt8) then (some (((rd_T36 x3 x7).f2.f0) == (x0.size : Int))) else (some false)) else (some false)) else (none)) else (none)) else (some false)) else (some false))
def cellarerlaw13_TokenCovers.j1 : Nat → ByteArray → List (S36) → List (S33) → Int → Int → Int → Bool → Option (Bool)
 | 0, _, _, _, _, _, _, _ => none
 | k + 1, x0, x3, x4, x7, x8, x9, x46 => if x46 = true then (if 0 ≤ x7 then (if x7 < (x3.length : Int) then (cellarerlaw13_TokenCovers.l0 k x0 x3 x4 (wrap64 (x7 + 1)) x8 ((rd_T36 x3 x7).f2.f1)) else (none)) else (none)) else (if x8 < (x4.length : Int) then (if 0 ≤ x8 then (if ((rd_T33 x4 x8).f0) = x9 then (if ((rd_T33 x4 x8).f1) > (wrap64 (x9 + 1)) then (if 0 ≤ x9 then (if x9 ≤ (wrap64 (x9 + 2)) then (if (wrap64 (x9 + 2)) ≤ (x0.size : Int) then (cellarerlaw13_TokenCovers.j2 k x0 x3 x4 x7 x8 x9 ((x0.extract (x9 : Int).toNat ((wrap64 (x9 + 2)) : Int).toNat).toList == ([45, 45] : List UInt8))) else (none)) else (none)) else (none)) else (cellarerlaw13_TokenCovers.j2 k x0 x3 x4 x7 x8 x9 false)) else (cellarerlaw13_TokenCovers.j2 k x0 x3 x4 x7 x8 x9 false)) else (none)) else (cellarerlaw13_TokenCovers.j2 k x0 x3 x4 x7 x8 x9 false))
def cellarerlaw13_TokenCovers.j2 : Nat → ByteArray → List (S36) → List (S33) → Int → Int → Int → Bool → Option (Bool)
 | 0, _, _, _, _, _, _, _ => none
 | k + 1, x0, x3, x4, x7, x8, x9, x107 => if x107 = true then (if 0 ≤ x8 then (if x8 < (x4.length : Int) then (cellarerlaw13_TokenCovers.l0 k x0 x3 x4 x7 (wrap64 (x8 + 1)) ((rd_T33 x4 x8).f1)) else (none)) else (none)) else (if 0 ≤ x9 then (if x9 < (x0.size : Int) then (if (bt x0 x9) = 32 then (cellarerlaw13_TokenCovers.l0 k x0 x3 x4 x7 x8 (wrap64 (x9 + 1))) else (if (bt x0 x9) = 9 then (cellarerlaw13_TokenCovers.l0 k x0 x3 x4 x7 x8 (wrap64 (x9 + 1))) else (if (bt x0 x9) = 13 then (cellarerlaw13_TokenCovers.l0 k x0 x3 x4 x7 x8 (wrap64 (x9 + 1))) else (if (bt x0 x9) = 10 then (cellarerlaw13_TokenCovers.l0 k x0 x3 x4 x7 x8 (wrap64 (x9 + 1))) else (some false))))) else (none)) else (none))
end
def cellarerlaw13_TokenCovers.f (k : Nat) (a0 : ByteArray) : Option (Bool) := (cellarerlaw13_awake.f k).bind fun t304 => (if t304 = true then (if (a0.size : Int) > 1000 then (some true) else ((token_Scan.f k a0).bind fun bt305 => (if bt305.2.2.2 = 0 then (cellarerlaw13_TokenCovers.l0 k a0 bt305.1 bt305.2.1 0 0 0) else (if (bt305.1.length : Int) = 0 then (if (bt305.2.1.length : Int) = 0 then (if bt305.2.2.1 ≥ 0 then (some (decide (bt305.2.2.1 ≤ (a0.size : Int)))) else (some false)) else (some false)) else (some false))))) else (some false))
theorem cellarerlaw13_TokenCovers.mono_l : ∀ k, (∀ y0 y1 y2 y3 y4 y5, LeO (cellarerlaw13_TokenCovers.l0 k y0 y1 y2 y3 y4 y5) (cellarerlaw13_TokenCovers.l0 (k + 1) y0 y1 y2 y3 y4 y5)) ∧ (∀ y0 y1 y2 y3 y4 y5 y6, LeO (cellarerlaw13_TokenCovers.j1 k y0 y1 y2 y3 y4 y5 y6) (cellarerlaw13_TokenCovers.j1 (k + 1) y0 y1 y2 y3 y4 y5 y6)) ∧ (∀ y0 y1 y2 y3 y4 y5 y6, LeO (cellarerlaw13_TokenCovers.j2 k y0 y1 y2 y3 y4 y5 y6) (cellarerlaw13_TokenCovers.j2 (k + 1) y0 y1 y2 y3 y4 y5 y6))
 | 0 => ⟨fun _ _ _ _ _ _ r h => by simp [cellarerlaw13_TokenCovers.l0] at h, fun _ _ _ _ _ _ _ r h => by simp [cellarerlaw13_TokenCovers.j1] at h, fun _ _ _ _ _ _ _ r h => by simp [cellarerlaw13_TokenCovers.j2] at h⟩
 | k + 1 => by
  obtain ⟨ih0, ih1, ih2⟩ := cellarerlaw13_TokenCovers.mono_l k
  refine ⟨?_, ?_, ?_⟩
  all_goals (intros; first | unfold cellarerlaw13_TokenCovers.l0 | unfold cellarerlaw13_TokenCovers.j1 | unfold cellarerlaw13_TokenCovers.j2)
  all_goals repeat' first
   | (with_reducible exact ih0 _ _ _ _ _ _)
   | (with_reducible exact ih1 _ _ _ _ _ _ _)
   | (with_reducible exact ih2 _ _ _ _ _ _ _)
   | (with_reducible exact cellarerlaw13_awake.mono _)
   | (with_reducible exact token_Scan.mono _ _)
   | (with_reducible exact LeO.refl _)
   | (with_reducible exact LeO.none _)
   | (with_reducible refine LeO.ite ?_ ?_)
   | (with_reducible refine LeO.bind ?_ (fun _ => ?_))
   | exact ih0 _ _ _ _ _ _
   | exact ih1 _ _ _ _ _ _ _
   | exact ih2 _ _ _ _ _ _ _
   | exact cellarerlaw13_awake.mono _
   | exact token_Scan.mono _ _
   | exact LeO.none _
   | refine LeO.ite ?_ ?_
   | refine LeO.bind ?_ (fun _ => ?_)
theorem cellarerlaw13_TokenCovers.mono : ∀ a0 k, LeO (cellarerlaw13_TokenCovers.f k a0) (cellarerlaw13_TokenCovers.f (k + 1) a0) := by
 intro a0 k
 obtain ⟨ih0, ih1, ih2⟩ := cellarerlaw13_TokenCovers.mono_l k
 unfold cellarerlaw13_TokenCovers.f
 repeat' first
   | (with_reducible exact ih0 _ _ _ _ _ _)
   | (with_reducible exact ih1 _ _ _ _ _ _ _)
   | (with_reducible exact ih2 _ _ _ _ _ _ _)
   | (with_reducible exact cellarerlaw13_awake.mono _)
   | (with_reducible exact token_Scan.mono _ _)
   | (with_reducible exact LeO.refl _)
   | (with_reducible exact LeO.none _)
   | (with_reducible refine LeO.ite ?_ ?_)
   | (with_reducible refine LeO.bind ?_ (fun _ => ?_))
   | exact ih0 _ _ _ _ _ _
   | exact ih1 _ _ _ _ _ _ _
   | exact ih2 _ _ _ _ _ _ _
   | exact cellarerlaw13_awake.mono _
   | exact token_Scan.mono _ _
   | exact LeO.none _
   | refine LeO.ite ?_ ?_
   | refine LeO.bind ?_ (fun _ => ?_)
/-- THE ONE PURE STATEMENT of cellarerlaw13_TokenCovers: yours. -/
def cellarerlaw13_TokenCovers.Pure : Prop := ∀ (a0 : ByteArray), a0.size ≤ 140737488351232 → ∃ k, cellarerlaw13_TokenCovers.f k a0 = some true
/-! ### cellarerlaw13_TokenSpaces: function 6 -/
mutual
def cellarerlaw13_TokenSpaces.j0 : Nat → ByteArray → Int → List (S36) → List (S33) → Bool → Option (Bool)
 | 0, _, _, _, _, _ => none
 | k + 1, x0, x1, x5, x6, x34 => if x34 = true then (some true) else (if (x5.length : Int) = 0 then (none) else (if 0 ≤ (Int.tmod (wrap64 (x1)) (x5.length : Int)) then (if (Int.tmod (wrap64 (x1)) (x5.length : Int)) < (x5.length : Int) then (if 0 ≤ ((rd_T36 x5 (Int.tmod (wrap64 (x1)) (x5.length : Int))).f2.f0) then (if ((rd_T36 x5 (Int.tmod (wrap64 (x1)) (x5.length : Int))).f2.f0) ≤ (x0.size : Int) then (if (x0.extract 0 (((rd_T36 x5 (Int.tmod (wrap64 (x1)) (x5.length : Int))).f2.f0) : Int).toNat).size + 14 ≤ 9223372036854775807 then (if ((x0.extract 0 (((rd_T36 x5 (Int.tmod (wrap64 (x1)) (x5.length : Int))).f2.f0) : Int).toNat) ++ (⟨#[10, 32, 45, 45, 32, 97, 32, 34, 110, 111, 116, 101, 34, 10]⟩ : ByteArray)).size + (x0.extract (((rd_T36 x5 (Int.tmod (wrap64 (x1)) (x5.length : Int))).f2.f0) : Int).toNat x0.size).size ≤ 9223372036854775807 then ((token_Scan.f k (((x0.extract 0 (((rd_T36 x5 (Int.tmod (wrap64 (x1)) (x5.length : Int))).f2.f0) : Int).toNat) ++ (⟨#[10, 32, 45, 45, 32, 97, 32, 34, 110, 111, 116, 101, 34, 10]⟩ : ByteArray)) ++ (x0.extract (((rd_T36 x5 (Int.tmod (wrap64 (x1)) (x5.length : Int))).f2.f0) : Int).toNat x0.size))).bind fun bt335 => (if bt335.2.2.2 = 0 then (if (bt335.1.length : Int) = (x5.length : Int) then (cellarerlaw13_TokenSpaces.j1 k x5 ((rd_T36 x5 (Int.tmod (wrap64 (x1)) (x5.length : Int))).f2.f0) bt335.1 ((bt335.2.1.length : Int) != (wrap64 ((x6.length : Int) + 1)))) else (cellarerlaw13_TokenSpaces.j1 k x5 ((rd_T36 x5 (Int.tmod (wrap64 (x1)) (x5.length : Int))).f2.f0) bt335.1 true)) else (cellarerlaw13_TokenSpaces.j1 k x5 ((rd_T36 x5 (Int.tmod (wrap64 (x1)) (x5.length : Int))).f2.f0) bt335.1 true))) else (none)) else (none)) else (none)) else (none)) else (none)) else (none)))
def cellarerlaw13_TokenSpaces.j1 : Nat → List (S36) → Int → List (S36) → Bool → Option (Bool)
 | 0, _, _, _, _ => none
 | k + 1, x5, x9, x10, x75 => if x75 = true then (none) else (cellarerlaw13_TokenSpaces.l0 k x5 x9 x10 0)
def cellarerlaw13_TokenSpaces.l0 : Nat → List (S36) → Int → List (S36) → Int → Option (Bool)
 | 0, _, _, _, _ => none
 | k + 1, x5, x9, x10, x14 => if x14 < (x5.length : Int) then (if 0 ≤ x14 then (if ((rd_T36 x5 x14).f2.f0) ≥ x9 then (if x14 < (x10.length : Int) then (if ((rd_T36 x10 x14).f0) = ((rd_T36 x5 x14).f0) then (if ((rd_T36 x10 x14).f1).toList = ((rd_T36 x5 x14).f1).toList then (if ((rd_T36 x10 x14).f2.f0) = (wrap64 (((rd_T36 x5 x14).f2.f0) + 14)) then (cellarerlaw13_TokenSpaces.l0 k x5 x9 x10 (wrap64 (x14 + 1))) else (none)) else (none)) else (none)) else (none)) else (if x14 < (x10.length : Int) then (if ((rd_T36 x10 x14).f0) = ((rd_T36 x5 x14).f0) then (if ((rd_T36 x10 x14).f1).toList = ((rd_T36 x5 x14).f1).toList then (if ((rd_T36 x10 x14).f2.f0) = (wrap64 (((rd_T36 x5 x14).f2.f0) + 0)) then (cellarerlaw13_TokenSpaces.l0 k x5 x9 x10 (wrap64 (x14 + 1))) else (none)) else (none)) else (none)) else (none))) else (none)) else (some true)
end
def cellarerlaw13_TokenSpaces.f (k : Nat) (a0 : ByteArray) (a1 : Int) : Option (Bool) := (cellarerlaw13_awake.f k).bind fun t325 => (if t325 = true then (if (a0.size : Int) > 1000 then (some true) else ((token_Scan.f k a0).bind fun bt326 => (if bt326.2.2.2 = 0 then (cellarerlaw13_TokenSpaces.j0 k a0 a1 bt326.1 bt326.2.1 ((bt326.1.length : Int) == 0)) else (cellarerlaw13_TokenSpaces.j0 k a0 a1 bt326.1 bt326.2.1 true)))) else (none))
theorem cellarerlaw13_TokenSpaces.mono_l : ∀ k, (∀ y0 y1 y2 y3 y4, LeO (cellarerlaw13_TokenSpaces.j0 k y0 y1 y2 y3 y4) (cellarerlaw13_TokenSpaces.j0 (k + 1) y0 y1 y2 y3 y4)) ∧ (∀ y0 y1 y2 y3, LeO (cellarerlaw13_TokenSpaces.j1 k y0 y1 y2 y3) (cellarerlaw13_TokenSpaces.j1 (k + 1) y0 y1 y2 y3)) ∧ (∀ y0 y1 y2 y3, LeO (cellarerlaw13_TokenSpaces.l0 k y0 y1 y2 y3) (cellarerlaw13_TokenSpaces.l0 (k + 1) y0 y1 y2 y3))
 | 0 => ⟨fun _ _ _ _ _ r h => by simp [cellarerlaw13_TokenSpaces.j0] at h, fun _ _ _ _ r h => by simp [cellarerlaw13_TokenSpaces.j1] at h, fun _ _ _ _ r h => by simp [cellarerlaw13_TokenSpaces.l0] at h⟩
 | k + 1 => by
  obtain ⟨ih0, ih1, ih2⟩ := cellarerlaw13_TokenSpaces.mono_l k
  refine ⟨?_, ?_, ?_⟩
  all_goals (intros; first | unfold cellarerlaw13_TokenSpaces.j0 | unfold cellarerlaw13_TokenSpaces.j1 | unfold cellarerlaw13_TokenSpaces.l0)
  all_goals repeat' first
   | (with_reducible exact ih0 _ _ _ _ _)
   | (with_reducible exact ih1 _ _ _ _)
   | (with_reducible exact ih2 _ _ _ _)
   | (with_reducible exact cellarerlaw13_awake.mono _)
   | (with_reducible exact token_Scan.mono _ _)
   | (with_reducible exact LeO.refl _)
   | (with_reducible exact LeO.none _)
   | (with_reducible refine LeO.ite ?_ ?_)
   | (with_reducible refine LeO.bind ?_ (fun _ => ?_))
   | exact ih0 _ _ _ _ _
   | exact ih1 _ _ _ _
   | exact ih2 _ _ _ _
   | exact cellarerlaw13_awake.mono _
   | exact token_Scan.mono _ _
   | exact LeO.none _
   | refine LeO.ite ?_ ?_
   | refine LeO.bind ?_ (fun _ => ?_)
theorem cellarerlaw13_TokenSpaces.mono : ∀ a0 a1 k, LeO (cellarerlaw13_TokenSpaces.f k a0 a1) (cellarerlaw13_TokenSpaces.f (k + 1) a0 a1) := by
 intro a0 a1 k
 obtain ⟨ih0, ih1, ih2⟩ := cellarerlaw13_TokenSpaces.mono_l k
 unfold cellarerlaw13_TokenSpaces.f
 repeat' first
   | (with_reducible exact ih0 _ _ _ _ _)
   | (with_reducible exact ih1 _ _ _ _)
   | (with_reducible exact ih2 _ _ _ _)
   | (with_reducible exact cellarerlaw13_awake.mono _)
   | (with_reducible exact token_Scan.mono _ _)
   | (with_reducible exact LeO.refl _)
   | (with_reducible exact LeO.none _)
   | (with_reducible refine LeO.ite ?_ ?_)
   | (with_reducible refine LeO.bind ?_ (fun _ => ?_))
   | exact ih0 _ _ _ _ _
   | exact ih1 _ _ _ _
   | exact ih2 _ _ _ _
   | exact cellarerlaw13_awake.mono _
   | exact token_Scan.mono _ _
   | exact LeO.none _
   | refine LeO.ite ?_ ?_
   | refine LeO.bind ?_ (fun _ => ?_)
def cellarerlaw13_TokenSpaces.T9 : Bool × List (List Nat × List Nat) := (true, [([], []), ([], []), ([0, 1], [0, 1]), ([2], [2]), ([], []), ([], []), ([4, 5], [4, 5]), ([3, 6], [3, 6]), ([7], [7]), ([8], [8]), ([9], [9]), ([9], [9]), ([9], [9]), ([9], [9]), ([10, 8, 0, 1, 2, 3, 4, 5, 6, 7, 8, 9, 10], [10]), ([11, 14, 0, 1, 2, 3, 4, 5, 6, 7, 8, 9, 10, 11, 14], [11]), ([12, 15, 0, 1, 2, 3, 4, 5, 6, 7, 8, 9, 10, 11, 12, 14, 15], [12]), ([13, 16, 0, 1, 2, 3, 4, 5, 6, 7, 8, 9, 10, 11, 12, 13, 14, 15, 16], [13])])
def cellarerlaw13_TokenSpaces.B9 : List Nat := [0, 0, 3, 7, 0, 0, 48, 127, 255, 511, 1023, 1023, 1023, 1023, 2047, 20479, 57343, 131071]
theorem cellarerlaw13_TokenSpaces.tab9 : rtab .any (opsOf Tryd.f6 9) = cellarerlaw13_TokenSpaces.T9 := by kernel_rfl
theorem cellarerlaw13_TokenSpaces.bits9 : waitsOk cellarerlaw13_TokenSpaces.T9.2 cellarerlaw13_TokenSpaces.B9 = true := by kernel_rfl
def cellarerlaw13_TokenSpaces.T18 : Bool × List (List Nat × List Nat) := (true, [([], []), ([], []), ([0, 1], [0, 1]), ([2], [2]), ([3], [3]), ([], []), ([], []), ([5, 6], [5, 6]), ([7], [7]), ([8], [8]), ([4, 9], [4, 9]), ([10], [10]), ([11], [11]), ([11], [11]), ([12, 13, 11], [11, 12, 13]), ([14, 11], [11, 14]), ([15, 11], [11, 15]), ([11], [11]), ([11], [11]), ([17, 18, 11], [11, 17, 18]), ([19, 11], [11, 19]), ([20, 11], [11, 20]), ([16, 21, 11], [11, 16, 21]), ([11, 22], [11, 22]), ([23, 11], [23]), ([24], [24]), ([24], [24]), ([25, 26, 24], [24, 25, 26]), ([27, 24], [24, 27]), ([28, 24], [24, 28]), ([29, 24], [24, 29]), ([24], [24]), ([24], [24]), ([31, 32, 24], [24, 31, 32]), ([33, 24], [24, 33]), ([34, 24], [24, 34]), ([35, 24], [24, 35]), ([24], [24]), ([36, 37, 24], [24, 36, 37]), ([30, 38, 24], [24, 30, 38]), ([24, 39], [24, 39])])
def cellarerlaw13_TokenSpaces.B18 : List Nat := [0, 0, 3, 7, 15, 0, 0, 96, 224, 480, 1023, 2047, 4095, 4095, 16383, 32767, 65535, 4095, 4095, 397311, 921599, 1970175, 4194303, 8388607, 16777215, 33554431, 33554431, 134217727, 268435455, 536870911, 1073741823, 33554431, 33554431, 6476005375, 15065939967, 32245809151, 66605547519, 33554431, 272763977727, 549755813887, 1099511627775]
theorem cellarerlaw13_TokenSpaces.tab18 : rtab .any (opsOf Tryd.f6 18) = cellarerlaw13_TokenSpaces.T18 := by kernel_rfl
theorem cellarerlaw13_TokenSpaces.bits18 : waitsOk cellarerlaw13_TokenSpaces.T18.2 cellarerlaw13_TokenSpaces.B18 = true := by kernel_rfl
/-- THE ONE PURE STATEMENT of cellarerlaw13_TokenSpaces: yours. -/
def cellarerlaw13_TokenSpaces.Pure : Prop := ∀ (a0 : ByteArray) (a1 : Int), a0.size ≤ 140737488351232 → (Lit.int .u8 a1).wf = true → ∃ k, cellarerlaw13_TokenSpaces.f k a0 a1 = some true
/-! ### cellarerlaw13_decimal: function 16 -/
def cellarerlaw13_decimal.f : Nat → Int → Option (ByteArray)
 | 0, _ => none
 | k + 1, a0 => if a0 < 0 then (if (wrap64 (Int.tdiv a0 10)) = 0 then ((cellarerlaw13_decimal.f k (wrap64 (-a0))).bind fun t356 => (if 1 + t356.size ≤ 9223372036854775807 then (some ((⟨#[45]⟩ : ByteArray) ++ t356)) else (none))) else ((cellarerlaw13_decimal.f k (wrap64 (Int.tdiv a0 10))).bind fun t357 => ((cellarerlaw13_decimal.f k (wrap64 (-(Int.tmod a0 10)))).bind fun t358 => (if t357.size + t358.size ≤ 9223372036854775807 then (some (t357 ++ t358)) else (none))))) else (if a0 > 9 then ((cellarerlaw13_decimal.f k (wrap64 (Int.tdiv a0 10))).bind fun t359 => ((cellarerlaw13_decimal.f k (Int.tmod a0 10)).bind fun t360 => (if t359.size + t360.size ≤ 9223372036854775807 then (some (t359 ++ t360)) else (none)))) else (some (strOfNums (([(wrap64 (48 + a0)) % 256] : List Int)))))
theorem cellarerlaw13_decimal.mono_l : ∀ k, (∀ y0, LeO (cellarerlaw13_decimal.f k y0) (cellarerlaw13_decimal.f (k + 1) y0))
 | 0 => fun _ r h => by simp [cellarerlaw13_decimal.f] at h
 | k + 1 => by
  have ih0 := cellarerlaw13_decimal.mono_l k
  ·intro y0
   unfold cellarerlaw13_decimal.f
   repeat' first
   | (with_reducible exact ih0 _)
   | (with_reducible exact LeO.refl _)
   | (with_reducible exact LeO.none _)
   | (with_reducible refine LeO.ite ?_ ?_)
   | (with_reducible refine LeO.bind ?_ (fun _ => ?_))
   | exact ih0 _
   | exact LeO.none _
   | refine LeO.ite ?_ ?_
   | refine LeO.bind ?_ (fun _ => ?_)
theorem cellarerlaw13_decimal.mono : ∀ a0 k, LeO (cellarerlaw13_decimal.f k a0) (cellarerlaw13_decimal.f (k + 1) a0) := by
 intro a0 k
 have ih0 := cellarerlaw13_decimal.mono_l k
 exact ih0 a0
/-! ### cellarerlaw13_TokenNumbers: function 7 -/
def cellarerlaw13_TokenNumbers.j0 : Nat → Int → ByteArray → Bool → Option (Bool)
 | 0, _, _, _ => none
 | k + 1, x0, x3, x25 => if x25 = true then (some false) else (if x0 < 0 then (if 2 + x3.size ≤ 9223372036854775807 then ((token_Scan.f k ((⟨#[102, 32]⟩ : ByteArray) ++ x3)).bind fun bt374 => (if x0 = (-9223372036854775808) then (if bt374.2.2.2 = 2 then (some (bt374.2.2.1 == 3)) else (some false)) else (if 1 ≤ (x3.size : Int) then ((cellarerlaw13_texts.f k ((⟨#[102, 32]⟩ : ByteArray) ++ x3) (([(⟨#[102]⟩ : ByteArray), (⟨#[45]⟩ : ByteArray), x3.extract 1 x3.size] : List ByteArray))).bind fun t385 => (some t385)) else (none)))) else (none)) else (if 2 + x3.size ≤ 9223372036854775807 then ((cellarerlaw13_texts.f k ((⟨#[102, 32]⟩ : ByteArray) ++ x3) (([(⟨#[102]⟩ : ByteArray), x3] : List ByteArray))).bind fun t389 => (some t389)) else (none)))
def cellarerlaw13_TokenNumbers.f (k : Nat) (a0 : Int) : Option (Bool) := (cellarerlaw13_awake.f k).bind fun t364 => (if t364 = true then ((cellarerlaw13_decimal.f k a0).bind fun t365 => ((cellarerlaw13_texts.f k t365 (([t365] : List ByteArray))).bind fun t369 => (if t369 = true then (if 2 + t365.size ≤ 9223372036854775807 then (if ((⟨#[102, 40]⟩ : ByteArray) ++ t365).size + 1 ≤ 9223372036854775807 then ((cellarerlaw13_texts.f k (((⟨#[102, 40]⟩ : ByteArray) ++ t365) ++ (⟨#[41]⟩ : ByteArray)) (([(⟨#[102]⟩ : ByteArray), (⟨#[40]⟩ : ByteArray), t365, (⟨#[41]⟩ : ByteArray)] : List ByteArray))).bind fun t373 => (cellarerlaw13_TokenNumbers.j0 k a0 t365 (!t373))) else (none)) else (none)) else (cellarerlaw13_TokenNumbers.j0 k a0 t365 true)))) else (some false))
theorem cellarerlaw13_TokenNumbers.mono_l : ∀ k, (∀ y0 y1 y2, LeO (cellarerlaw13_TokenNumbers.j0 k y0 y1 y2) (cellarerlaw13_TokenNumbers.j0 (k + 1) y0 y1 y2))
 | 0 => fun _ _ _ r h => by simp [cellarerlaw13_TokenNumbers.j0] at h
 | k + 1 => by
  have ih0 := cellarerlaw13_TokenNumbers.mono_l k
  ·intro y0 y1 y2
   unfold cellarerlaw13_TokenNumbers.j0
   repeat' first
   | (with_reducible exact ih0 _ _ _)
   | (with_reducible exact cellarerlaw13_awake.mono _)
   | (with_reducible exact cellarerlaw13_decimal.mono _ _)
   | (with_reducible exact cellarerlaw13_texts.mono _ _ _)
   | (with_reducible exact token_Scan.mono _ _)
   | (with_reducible exact LeO.refl _)
   | (with_reducible exact LeO.none _)
   | (with_reducible refine LeO.ite ?_ ?_)
   | (with_reducible refine LeO.bind ?_ (fun _ => ?_))
   | exact ih0 _ _ _
   | exact cellarerlaw13_awake.mono _
   | exact cellarerlaw13_decimal.mono _ _
   | exact cellarerlaw13_texts.mono _ _ _
   | exact token_Scan.mono _ _
   | exact LeO.none _
   | refine LeO.ite ?_ ?_
   | refine LeO.bind ?_ (fun _ => ?_)
theorem cellarerlaw13_TokenNumbers.mono : ∀ a0 k, LeO (cellarerlaw13_TokenNumbers.f k a0) (cellarerlaw13_TokenNumbers.f (k + 1) a0) := by
 intro a0 k
 have ih0 := cellarerlaw13_TokenNumbers.mono_l k
 unfold cellarerlaw13_TokenNumbers.f
 repeat' first
   | (with_reducible exact ih0 _ _ _)
   | (with_reducible exact cellarerlaw13_awake.mono _)
   | (with_reducible exact cellarerlaw13_decimal.mono _ _)
   | (with_reducible exact cellarerlaw13_texts.mono _ _ _)
   | (with_reducible exact token_Scan.mono _ _)
   | (with_reducible exact LeO.refl _)
   | (with_reducible exact LeO.none _)
   | (with_reducible refine LeO.ite ?_ ?_)
   | (with_reducible refine LeO.bind ?_ (fun _ => ?_))
   | exact ih0 _ _ _
   | exact cellarerlaw13_awake.mono _
   | exact cellarerlaw13_decimal.mono _ _
   | exact cellarerlaw13_texts.mono _ _ _
   | exact token_Scan.mono _ _
   | exact LeO.none _
   | refine LeO.ite ?_ ?_
   | refine LeO.bind ?_ (fun _ => ?_)
/-- THE ONE PURE STATEMENT of cellarerlaw13_TokenNumbers: yours. -/
def cellarerlaw13_TokenNumbers.Pure : Prop := ∀ (a0 : Int), (Lit.int .i64 a0).wf = true → ∃ k, cellarerlaw13_TokenNumbers.f k a0 = some true
/-! ### strings_Join: function 33 -/
def strings_Join.f (a0 : List ByteArray) (a1 : ByteArray) : Option ByteArray :=
 if (Lib.join (a0.map (·.data.toList)) a1.data.toList).length ≤ 140737488355328 then
  (if a0.length ≤ 140737488355328 then some ⟨(Lib.join (a0.map (·.data.toList)) a1.data.toList).toArray⟩ else none) else none
/-! ### token_Join: function 18 -/
mutual
def token_Join.l0 : Nat → List ByteArray → List (S36) → List (S36) → Int → Int → Option (ByteArray × Int)
 | 0, _, _, _, _, _ => none
 | k + 1, x4, x5, x15, x16, x17 => if x17 < x16 then (if 0 ≤ x17 then (if x17 < (x15.length : Int) then (if ((rd_T36 x15 x17).f0) = 6 then (token_Join.l0 k x4 x5 x15 x16 (wrap64 (x17 + 1))) else (if x4.length < 8796093022208 then (if x5.length < 3518437208883 then (token_Join.l0 k (x4 ++ [(rd_T36 x15 x17).f1]) (x5 ++ [(⟨(rd_T36 x15 x17).f0, (rd_T36 x15 x17).f1, (⟨(rd_T36 x15 x17).f2.f0, (rd_T36 x15 x17).f2.f1⟩ : S33)⟩ : S36)]) x15 x16 (wrap64 (x17 + 1))) else (none)) else (none))) else (none)) else (none)) else ((strings_Join.f x4 (⟨#[32]⟩ : ByteArray)).bind fun t398 => (if (t398.size : Int) > 65536 then (some ((⟨#[]⟩ : ByteArray), 5)) else ((token_Scan.f k t398).bind fun bt399 => (if bt399.2.2.2 = 0 then (token_Join.j1 k x5 t398 bt399.1 ((bt399.1.length : Int) != (wrap64 ((x5.length : Int) + 1)))) else (token_Join.j1 k x5 t398 bt399.1 true)))))
def token_Join.j1 : Nat → List (S36) → ByteArray → List (S36) → Bool → Option (ByteArray × Int)
 | 0, _, _, _, _ => none
 | k + 1, x5, x8, x9, x55 => if x55 = true then (some ((⟨#[]⟩ : ByteArray), 3)) else (token_Join.l1 k x8 x9 x5 (x5.length : Int) 0)
def token_Join.l1 : Nat → ByteArray → List (S36) → List (S36) → Int → Int → Option (ByteArray × Int)
 | 0, _, _, _, _, _ => none
 | k + 1, x8, x9, x56, x57, x58 => if x58 < x57 then (if 0 ≤ x58 then (if x58 < (x56.length : Int) then (if x58 < (x9.length : Int) then (if ((rd_T36 x56 x58).f0) = ((rd_T36 x9 x58).f0) then (if ((rd_T36 x56 x58).f1).toList = ((rd_T36 x9 x58).f1).toList then (token_Join.l1 k x8 x9 x56 x57 (wrap64 (x58 + 1))) else (some ((⟨#[]⟩ : ByteArray), 3))) else (some ((⟨#[]⟩ : ByteArray), 3))) else (none)) else (none)) else (none)) else (some (x8, 0))
end
def token_Join.f (k : Nat) (l0 : List (S36)) : Option (ByteArray × Int) := token_Join.l0 k ([] : List ByteArray) ([] : List (S36)) l0 (l0.length : Int) 0
theorem token_Join.mono_l : ∀ k, (∀ y0 y1 y2 y3 y4, LeO (token_Join.l0 k y0 y1 y2 y3 y4) (token_Join.l0 (k + 1) y0 y1 y2 y3 y4)) ∧ (∀ y0 y1 y2 y3, LeO (token_Join.j1 k y0 y1 y2 y3) (token_Join.j1 (k + 1) y0 y1 y2 y3)) ∧ (∀ y0 y1 y2 y3 y4, LeO (token_Join.l1 k y0 y1 y2 y3 y4) (token_Join.l1 (k + 1) y0 y1 y2 y3 y4))
 | 0 => ⟨fun _ _ _ _ _ r h => by simp [token_Join.l0] at h, fun _ _ _ _ r h => by simp [token_Join.j1] at h, fun _ _ _ _ _ r h => by simp [token_Join.l1] at h⟩
 | k + 1 => by
  obtain ⟨ih0, ih1, ih2⟩ := token_Join.mono_l k
  refine ⟨?_, ?_, ?_⟩
  all_goals (intros; first | unfold token_Join.l0 | unfold token_Join.j1 | unfold token_Join.l1)
  all_goals repeat' first
   | (with_reducible exact ih0 _ _ _ _ _)
   | (with_reducible exact ih1 _ _ _ _)
   | (with_reducible exact ih2 _ _ _ _ _)
   | (with_reducible exact token_Scan.mono _ _)
   | (with_reducible exact LeO.refl _)
   | (with_reducible exact LeO.none _)
   | (with_reducible refine LeO.ite ?_ ?_)
   | (with_reducible refine LeO.bind ?_ (fun _ => ?_))
   | exact ih0 _ _ _ _ _
   | exact ih1 _ _ _ _
   | exact ih2 _ _ _ _ _
   | exact token_Scan.mono _ _
   | exact LeO.none _
   | refine LeO.ite ?_ ?_
   | refine LeO.bind ?_ (fun _ => ?_)
theorem token_Join.mono : ∀ a0 k, LeO (token_Join.f k a0) (token_Join.f (k + 1) a0) := by
 intro a0 k
 obtain ⟨ih0, ih1, ih2⟩ := token_Join.mono_l k
 unfold token_Join.f
 repeat' first
   | (with_reducible exact ih0 _ _ _ _ _)
   | (with_reducible exact ih1 _ _ _ _)
   | (with_reducible exact ih2 _ _ _ _ _)
   | (with_reducible exact token_Scan.mono _ _)
   | (with_reducible exact LeO.refl _)
   | (with_reducible exact LeO.none _)
   | (with_reducible refine LeO.ite ?_ ?_)
   | (with_reducible refine LeO.bind ?_ (fun _ => ?_))
   | exact ih0 _ _ _ _ _
   | exact ih1 _ _ _ _
   | exact ih2 _ _ _ _ _
   | exact token_Scan.mono _ _
   | exact LeO.none _
   | refine LeO.ite ?_ ?_
   | refine LeO.bind ?_ (fun _ => ?_)
/-! ### cellarerref13_Join: function 19 -/
mutual
def cellarerref13_Join.l0 : Nat → List (S41) → ByteArray → List (S41) → Int → Option (ByteArray × Int)
 | 0, _, _, _, _ => none
 | k + 1, x0, x4, x5, x6 => if x6 < (x0.length : Int) then (if 0 ≤ x6 then (if ((rd_T41 x0 x6).f0) = 6 then (cellarerref13_Join.l0 k x0 x4 x5 (wrap64 (x6 + 1))) else (if (x5.length : Int) > 0 then (if x4.size + 1 ≤ 9223372036854775807 then (if (x4 ++ (⟨#[32]⟩ : ByteArray)).size + ((rd_T41 x0 x6).f1).size ≤ 9223372036854775807 then (if x5.length < 3518437208883 then (cellarerref13_Join.l0 k x0 ((x4 ++ (⟨#[32]⟩ : ByteArray)) ++ ((rd_T41 x0 x6).f1)) (x5 ++ [(⟨(rd_T41 x0 x6).f0, (rd_T41 x0 x6).f1, (⟨(rd_T41 x0 x6).f2.f0, (rd_T41 x0 x6).f2.f1⟩ : S33)⟩ : S41)]) (wrap64 (x6 + 1))) else (none)) else (none)) else (none)) else (if x4.size + ((rd_T41 x0 x6).f1).size ≤ 9223372036854775807 then (if x5.length < 3518437208883 then (cellarerref13_Join.l0 k x0 (x4 ++ ((rd_T41 x0 x6).f1)) (x5 ++ [(⟨(rd_T41 x0 x6).f0, (rd_T41 x0 x6).f1, (⟨(rd_T41 x0 x6).f2.f0, (rd_T41 x0 x6).f2.f1⟩ : S33)⟩ : S41)]) (wrap64 (x6 + 1))) else (none)) else (none)))) else (none)) else (if (x4.size : Int) > 65536 then (some ((⟨#[]⟩ : ByteArray), 5)) else ((cellarerref13_Scan.f k x4).bind fun bt422 => (if bt422.2.2.2 = 0 then (cellarerref13_Join.j1 k x4 x5 bt422.1 ((bt422.1.length : Int) != (wrap64 ((x5.length : Int) + 1)))) else (cellarerref13_Join.j1 k x4 x5 bt422.1 true))))
def cellarerref13_Join.j1 : Nat → ByteArray → List (S41) → List (S41) → Bool → Option (ByteArray × Int)
 | 0, _, _, _, _ => none
 | k + 1, x4, x5, x7, x62 => if x62 = true then (some ((⟨#[]⟩ : ByteArray), 3)) else (cellarerref13_Join.l1 k x4 x5 x7 0)
def cellarerref13_Join.l1 : Nat → ByteArray → List (S41) → List (S41) → Int → Option (ByteArray × Int)
 | 0, _, _, _, _ => none
 | k + 1, x4, x5, x7, x11 => if x11 < (x5.length : Int) then (if 0 ≤ x11 then (if x11 < (x7.length : Int) then (if ((rd_T41 x7 x11).f0) = ((rd_T41 x5 x11).f0) then (if ((rd_T41 x7 x11).f1).toList = ((rd_T41 x5 x11).f1).toList then (cellarerref13_Join.l1 k x4 x5 x7 (wrap64 (x11 + 1))) else (some ((⟨#[]⟩ : ByteArray), 3))) else (some ((⟨#[]⟩ : ByteArray), 3))) else (none)) else (none)) else (some (x4, 0))
end
def cellarerref13_Join.f (k : Nat) (l0 : List (S41)) : Option (ByteArray × Int) := cellarerref13_Join.l0 k l0 (⟨#[]⟩ : ByteArray) ([] : List (S41)) 0
theorem cellarerref13_Join.mono_l : ∀ k, (∀ y0 y1 y2 y3, LeO (cellarerref13_Join.l0 k y0 y1 y2 y3) (cellarerref13_Join.l0 (k + 1) y0 y1 y2 y3)) ∧ (∀ y0 y1 y2 y3, LeO (cellarerref13_Join.j1 k y0 y1 y2 y3) (cellarerref13_Join.j1 (k + 1) y0 y1 y2 y3)) ∧ (∀ y0 y1 y2 y3, LeO (cellarerref13_Join.l1 k y0 y1 y2 y3) (cellarerref13_Join.l1 (k + 1) y0 y1 y2 y3))
 | 0 => ⟨fun _ _ _ _ r h => by simp [cellarerref13_Join.l0] at h, fun _ _ _ _ r h => by simp [cellarerref13_Join.j1] at h, fun _ _ _ _ r h => by simp [cellarerref13_Join.l1] at h⟩
 | k + 1 => by
  obtain ⟨ih0, ih1, ih2⟩ := cellarerref13_Join.mono_l k
  refine ⟨?_, ?_, ?_⟩
  all_goals (intros; first | unfold cellarerref13_Join.l0 | unfold cellarerref13_Join.j1 | unfold cellarerref13_Join.l1)
  all_goals repeat' first
   | (with_reducible exact ih0 _ _ _ _)
   | (with_reducible exact ih1 _ _ _ _)
   | (with_reducible exact ih2 _ _ _ _)
   | (with_reducible exact cellarerref13_Scan.mono _ _)
   | (with_reducible exact LeO.refl _)
   | (with_reducible exact LeO.none _)
   | (with_reducible refine LeO.ite ?_ ?_)
   | (with_reducible refine LeO.bind ?_ (fun _ => ?_))
   | exact ih0 _ _ _ _
   | exact ih1 _ _ _ _
   | exact ih2 _ _ _ _
   | exact cellarerref13_Scan.mono _ _
   | exact LeO.none _
   | refine LeO.ite ?_ ?_
   | refine LeO.bind ?_ (fun _ => ?_)
theorem cellarerref13_Join.mono : ∀ a0 k, LeO (cellarerref13_Join.f k a0) (cellarerref13_Join.f (k + 1) a0) := by
 intro a0 k
 obtain ⟨ih0, ih1, ih2⟩ := cellarerref13_Join.mono_l k
 unfold cellarerref13_Join.f
 repeat' first
   | (with_reducible exact ih0 _ _ _ _)
   | (with_reducible exact ih1 _ _ _ _)
   | (with_reducible exact ih2 _ _ _ _)
   | (with_reducible exact cellarerref13_Scan.mono _ _)
   | (with_reducible exact LeO.refl _)
   | (with_reducible exact LeO.none _)
   | (with_reducible refine LeO.ite ?_ ?_)
   | (with_reducible refine LeO.bind ?_ (fun _ => ?_))
   | exact ih0 _ _ _ _
   | exact ih1 _ _ _ _
   | exact ih2 _ _ _ _
   | exact cellarerref13_Scan.mono _ _
   | exact LeO.none _
   | refine LeO.ite ?_ ?_
   | refine LeO.bind ?_ (fun _ => ?_)
/-! ### cellarerlaw13_TokenJoins: function 8 -/
def cellarerlaw13_TokenJoins.l0 : Nat → List (S41) → List (S36) → Int → Option (Bool)
 | 0, _, _, _ => none
 | k + 1, x0, x3, x4 => if x4 < (x0.length : Int) then (if 0 ≤ x4 then (if (((rd_T41 x0 x4).f1).size : Int) > 60 then (some true) else (if x4 > 60 then (some true) else (if x3.length < 3518437208883 then (cellarerlaw13_TokenJoins.l0 k x0 (x3 ++ [(⟨(rd_T41 x0 x4).f0, (rd_T41 x0 x4).f1, (⟨(rd_T41 x0 x4).f2.f0, (rd_T41 x0 x4).f2.f1⟩ : S33)⟩ : S36)]) (wrap64 (x4 + 1))) else (none)))) else (none)) else ((token_Join.f k x3).bind fun bt442 => ((cellarerref13_Join.f k x0).bind fun bt444 => (if bt442.1.toList = bt444.1.toList then (some (bt442.2 == bt444.2)) else (some false))))
def cellarerlaw13_TokenJoins.f (k : Nat) (l0 : List (S41)) : Option (Bool) := (cellarerlaw13_awake.f k).bind fun t434 => (if t434 = true then (cellarerlaw13_TokenJoins.l0 k l0 ([] : List (S36)) 0) else (some false))
theorem cellarerlaw13_TokenJoins.mono_l : ∀ k, (∀ y0 y1 y2, LeO (cellarerlaw13_TokenJoins.l0 k y0 y1 y2) (cellarerlaw13_TokenJoins.l0 (k + 1) y0 y1 y2))
 | 0 => fun _ _ _ r h => by simp [cellarerlaw13_TokenJoins.l0] at h
 | k + 1 => by
  have ih0 := cellarerlaw13_TokenJoins.mono_l k
  ·intro y0 y1 y2
   unfold cellarerlaw13_TokenJoins.l0
   repeat' first
   | (with_reducible exact ih0 _ _ _)
   | (with_reducible exact cellarerlaw13_awake.mono _)
   | (with_reducible exact cellarerref13_Join.mono _ _)
   | (with_reducible exact token_Join.mono _ _)
   | (with_reducible exact LeO.refl _)
   | (with_reducible exact LeO.none _)
   | (with_reducible refine LeO.ite ?_ ?_)
   | (with_reducible refine LeO.bind ?_ (fun _ => ?_))
   | exact ih0 _ _ _
   | exact cellarerlaw13_awake.mono _
   | exact cellarerref13_Join.mono _ _
   | exact token_Join.mono _ _
   | exact LeO.none _
   | refine LeO.ite ?_ ?_
   | refine LeO.bind ?_ (fun _ => ?_)
theorem cellarerlaw13_TokenJoins.mono : ∀ a0 k, LeO (cellarerlaw13_TokenJoins.f k a0) (cellarerlaw13_TokenJoins.f (k + 1) a0) := by
 intro a0 k
 have ih0 := cellarerlaw13_TokenJoins.mono_l k
 unfold cellarerlaw13_TokenJoins.f
 repeat' first
   | (with_reducible exact ih0 _ _ _)
   | (with_reducible exact cellarerlaw13_awake.mono _)
   | (with_reducible exact cellarerref13_Join.mono _ _)
   | (with_reducible exact token_Join.mono _ _)
   | (with_reducible exact LeO.refl _)
   | (with_reducible exact LeO.none _)
   | (with_reducible refine LeO.ite ?_ ?_)
   | (with_reducible refine LeO.bind ?_ (fun _ => ?_))
   | exact ih0 _ _ _
   | exact cellarerlaw13_awake.mono _
   | exact cellarerref13_Join.mono _ _
   | exact token_Join.mono _ _
   | exact LeO.none _
   | refine LeO.ite ?_ ?_
   | refine LeO.bind ?_ (fun _ => ?_)
def cellarerlaw13_TokenJoins.T9 : Bool × List (List Nat × List Nat) := (true, [([], []), ([], []), ([], []), ([1, 2], [1, 2]), ([3], [3]), ([4], [4]), ([], []), ([], []), ([6, 7], [6, 7]), ([8], [8]), ([9], [9]), ([], []), ([], []), ([11, 12], [11, 12]), ([13], [13]), ([14], [14]), ([5, 10, 15], [5, 10, 15]), ([16], [16]), ([0, 17], [0, 17]), ([18, 18, 0, 1, 2, 3, 4, 5, 6, 7, 8, 9, 10, 11, 12, 13, 14, 15, 16, 17, 18], [0, 18])])
def cellarerlaw13_TokenJoins.B9 : List Nat := [0, 0, 0, 6, 14, 30, 0, 0, 192, 448, 960, 0, 0, 6144, 14336, 30720, 65534, 131070, 262143, 524287]
theorem cellarerlaw13_TokenJoins.tab9 : rtab .any (opsOf Tryd.f8 9) = cellarerlaw13_TokenJoins.T9 := by kernel_rfl
theorem cellarerlaw13_TokenJoins.bits9 : waitsOk cellarerlaw13_TokenJoins.T9.2 cellarerlaw13_TokenJoins.B9 = true := by kernel_rfl
/-! ### cellarerlaw13_TokenBack: function 9 -/
mutual
def cellarerlaw13_TokenBack.j0 : Nat → List (S36) → List (S36) → Bool → Option (Bool)
 | 0, _, _, _ => none
 | k + 1, x3, x9, x57 => if x57 = true then (some false) else (cellarerlaw13_TokenBack.l0 k x3 x9 0)
def cellarerlaw13_TokenBack.l0 : Nat → List (S36) → List (S36) → Int → Option (Bool)
 | 0, _, _, _ => none
 | k + 1, x3, x9, x13 => if x13 < (x3.length : Int) then (if 0 ≤ x13 then (if x13 < (x9.length : Int) then (if ((rd_T36 x3 x13).f0) = ((rd_T36 x9 x13).f0) then (if ((rd_T36 x3 x13).f1).toList = ((rd_T36 x9 x13).f1).toList then (cellarerlaw13_TokenBack.l0 k x3 x9 (wrap64 (x13 + 1))) else (some false)) else (some false)) else (none)) else (none)) else (some true)
end
def cellarerlaw13_TokenBack.f (k : Nat) (a0 : ByteArray) : Option (Bool) := (cellarerlaw13_awake.f k).bind fun t446 => (if t446 = true then (if (a0.size : Int) > 1000 then (some true) else ((token_Scan.f k a0).bind fun bt447 => (if bt447.2.2.2 = 0 then ((token_Join.f k bt447.1).bind fun bt455 => ((token_Scan.f k bt455.1).bind fun bt457 => (if bt455.2 = 0 then (if bt457.2.2.2 = 0 then (if (bt457.2.1.length : Int) = 0 then (cellarerlaw13_TokenBack.j0 k bt447.1 bt457.1 ((bt457.1.length : Int) != (bt447.1.length : Int))) else (cellarerlaw13_TokenBack.j0 k bt447.1 bt457.1 true)) else (cellarerlaw13_TokenBack.j0 k bt447.1 bt457.1 true)) else (cellarerlaw13_TokenBack.j0 k bt447.1 bt457.1 true)))) else (some true)))) else (some false))
theorem cellarerlaw13_TokenBack.mono_l : ∀ k, (∀ y0 y1 y2, LeO (cellarerlaw13_TokenBack.j0 k y0 y1 y2) (cellarerlaw13_TokenBack.j0 (k + 1) y0 y1 y2)) ∧ (∀ y0 y1 y2, LeO (cellarerlaw13_TokenBack.l0 k y0 y1 y2) (cellarerlaw13_TokenBack.l0 (k + 1) y0 y1 y2))
 | 0 => ⟨fun _ _ _ r h => by simp [cellarerlaw13_TokenBack.j0] at h, fun _ _ _ r h => by simp [cellarerlaw13_TokenBack.l0] at h⟩
 | k + 1 => by
  obtain ⟨ih0, ih1⟩ := cellarerlaw13_TokenBack.mono_l k
  refine ⟨?_, ?_⟩
  all_goals (intros; first | unfold cellarerlaw13_TokenBack.j0 | unfold cellarerlaw13_TokenBack.l0)
  all_goals repeat' first
   | (with_reducible exact ih0 _ _ _)
   | (with_reducible exact ih1 _ _ _)
   | (with_reducible exact cellarerlaw13_awake.mono _)
   | (with_reducible exact token_Join.mono _ _)
   | (with_reducible exact token_Scan.mono _ _)
   | (with_reducible exact LeO.refl _)
   | (with_reducible exact LeO.none _)
   | (with_reducible refine LeO.ite ?_ ?_)
   | (with_reducible refine LeO.bind ?_ (fun _ => ?_))
   | exact ih0 _ _ _
   | exact ih1 _ _ _
   | exact cellarerlaw13_awake.mono _
   | exact token_Join.mono _ _
   | exact token_Scan.mono _ _
   | exact LeO.none _
   | refine LeO.ite ?_ ?_
   | refine LeO.bind ?_ (fun _ => ?_)
theorem cellarerlaw13_TokenBack.mono : ∀ a0 k, LeO (cellarerlaw13_TokenBack.f k a0) (cellarerlaw13_TokenBack.f (k + 1) a0) := by
 intro a0 k
 obtain ⟨ih0, ih1⟩ := cellarerlaw13_TokenBack.mono_l k
 unfold cellarerlaw13_TokenBack.f
 repeat' first
   | (with_reducible exact ih0 _ _ _)
   | (with_reducible exact ih1 _ _ _)
   | (with_reducible exact cellarerlaw13_awake.mono _)
   | (with_reducible exact token_Join.mono _ _)
   | (with_reducible exact token_Scan.mono _ _)
   | (with_reducible exact LeO.refl _)
   | (with_reducible exact LeO.none _)
   | (with_reducible refine LeO.ite ?_ ?_)
   | (with_reducible refine LeO.bind ?_ (fun _ => ?_))
   | exact ih0 _ _ _
   | exact ih1 _ _ _
   | exact cellarerlaw13_awake.mono _
   | exact token_Join.mono _ _
   | exact token_Scan.mono _ _
   | exact LeO.none _
   | refine LeO.ite ?_ ?_
   | refine LeO.bind ?_ (fun _ => ?_)
/-- THE ONE PURE STATEMENT of cellarerlaw13_TokenBack: yours. -/
def cellarerlaw13_TokenBack.Pure : Prop := ∀ (a0 : ByteArray), a0.size ≤ 140737488351232 → ∃ k, cellarerlaw13_TokenBack.f k a0 = some true
end Go.Proofs.YtenjbcjekjmaeaaDoor.PTok
