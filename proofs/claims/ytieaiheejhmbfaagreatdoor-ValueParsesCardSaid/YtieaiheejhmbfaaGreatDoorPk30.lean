/- The plain laws of the reference's texts: numerals. No conditions. -/
import Derived.Test.YtieaiheejhmbfaaGreatDoorPk27
import Derived.Lib.ItoaLen
namespace Go.Proofs.YtieaiheejhmbfaaGreatDoor.ML
open Go.RowKit
set_option linter.unusedVariables false
set_option linter.unusedSimpArgs false
theorem tdiv_neg10 {n : Int} (h : n < 0) : n.tdiv 10 = -(-n / 10) := by
  have : n = -(-n) := by omega
  rw [this, Int.neg_tdiv, Int.tdiv_eq_ediv_of_nonneg (by omega)]
  simp
theorem tmod_neg10 {n : Int} (h : n < 0) : n.tmod 10 = -(-n % 10) := by
  have : n = -(-n) := by omega
  rw [this, Int.neg_tmod, Int.tmod_eq_emod_of_nonneg (by omega)]
  simp
theorem tdiv_pos10 {n : Int} (h : 0 ≤ n) : n.tdiv 10 = n / 10 := Int.tdiv_eq_ediv_of_nonneg h
theorem tmod_pos10 {n : Int} (h : 0 ≤ n) : n.tmod 10 = n % 10 := Int.tmod_eq_emod_of_nonneg h
abbrev bMi : ByteArray := ⟨#[45]⟩
theorem ba_app (l l' : List UInt8) : (⟨l.toArray⟩ : ByteArray) ++ ⟨l'.toArray⟩ = ⟨(l ++ l').toArray⟩ := by
  apply ByteArray.ext
  rw [ByteArray.data_append]; simp
theorem itoa_pos {n : Int} (h : 0 ≤ n) : Lib.itoa n = Lib.decDigits n.toNat := by unfold Lib.itoa; rw [if_neg (by omega)]
theorem itoa_m {n : Int} (h : n < 0) : Lib.itoa n = 45 :: Lib.decDigits (-n).toNat := by unfold Lib.itoa; rw [if_pos h, show n.natAbs = (-n).toNat by omega]
theorem dec_app {u : Nat} (h : 10 ≤ u) : Lib.decDigits u = Lib.decDigits (u / 10) ++ Lib.decDigits (u % 10) := by
  rw [Lib.decDigits, dif_neg (by omega), Lib.decDigits_one (by omega : u % 10 < 10)]
theorem itoaS_neg1 {n : Int} (h : n < 0) : bMi ++ itoaS (0 - n) = itoaS n := by
  unfold itoaS
  rw [show (0 - n) = -n by omega, itoa_pos (by omega : 0 ≤ -n), itoa_m h]
  exact ba_app [45] _
theorem itoaS_neg2 {n : Int} (h : n ≤ -10) : itoaS (n.tdiv 10) ++ itoaS (0 - n.tmod 10) = itoaS n := by
  unfold itoaS
  rw [tdiv_neg10 (by omega), tmod_neg10 (by omega), ba_app, itoa_m (by omega : n < 0), itoa_m (by omega : -(-n / 10) < 0), show (0 - -(-n % 10)) = -n % 10 by omega, itoa_pos (by omega : 0 ≤ -n % 10), dec_app (u := (-n).toNat) (by omega)]
  rw [show (- -(-n / 10)).toNat = (-n).toNat / 10 by omega, show (-n % 10).toNat = (-n).toNat % 10 by omega]
  rfl
theorem itoaS_pos2 {n : Int} (h : 9 < n) : itoaS (n.tdiv 10) ++ itoaS (n.tmod 10) = itoaS n := by
  unfold itoaS
  rw [tdiv_pos10 (by omega), tmod_pos10 (by omega), ba_app, itoa_pos (by omega : 0 ≤ n), itoa_pos (by omega : 0 ≤ n / 10), itoa_pos (by omega : 0 ≤ n % 10), dec_app (u := n.toNat) (by omega)]
  rw [show (n / 10).toNat = n.toNat / 10 by omega, show (n % 10).toNat = n.toNat % 10 by omega]
abbrev bDig : ByteArray := ⟨#[48, 49, 50, 51, 52, 53, 54, 55, 56, 57]⟩
theorem itoaS_dig_fin : ∀ i : Fin 10, bDig.extract i.val (i.val + 1) = (⟨#[UInt8.ofNat (48 + i.val)]⟩ : ByteArray) := by decide +kernel
theorem itoaS_dig {n : Int} (h0 : 0 ≤ n) (h : n ≤ 9) : bDig.extract n.toNat (n + 1).toNat = itoaS n := by
  have h1 := itoaS_dig_fin ⟨n.toNat, by omega⟩
  dsimp only at h1
  rw [show (n + 1).toNat = n.toNat + 1 by omega, h1]
  unfold itoaS
  rw [itoa_pos h0, Lib.decDigits_one (by omega)]
/-- The texts are short. -/
theorem itoaS_size {n : Int} (h0 : -9223372036854775808 ≤ n) (h1 : n ≤ 9223372036854775807) : (itoaS n).size ≤ 21 := Lib.itoa_length_le n h0 h1
mutual
def cnN : VT → Nat
  | .mk _ _ l => cnNL l + 1
def cnNL : List VT → Nat
  | [] => 0
  | v :: l => cnN v + cnNL l
end
mutual
theorem szV_cn : ∀ (v : VT) (n : Int), szV 60 v n ≤ 60 → szV 60 v n = n + cnN v
  | .mk _ _ l, n, h => by
    rw [szV] at h ⊢
    rw [szL_cn l (n + 1) h, cnN]; push_cast; omega
theorem szL_cn : ∀ (l : List VT) (n : Int), szL 60 l n ≤ 60 → szL 60 l n = n + cnNL l
  | [], n, h => by rw [szL, cnNL]; simp
  | v :: l, n, h => by
    rw [szL] at h ⊢
    split at h
    · rename_i hn
      rw [if_pos hn, cnNL]
      by_cases hv : szV 60 v n ≤ 60
      · rw [szL_cn l _ h, szV_cn v n hv]; push_cast; omega
      · rw [szL_stop 60 l _ (by omega)] at h; exact absurd h hv
    · rename_i hn; exact absurd h hn
end
end Go.Proofs.YtieaiheejhmbfaaGreatDoor.ML
