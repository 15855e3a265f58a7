/- The plain laws of the reference's texts: numerals. No conditions. -/
import Derived.Test.YtieaiheejhmbfaaGreatDoorPk25
import Derived.Lib.ItoaLen
import Derived.Test.YtieaiheejhmbfaaGreatDoorPk23
namespace Go.Proofs.YtieaiheejhmbfaaGreatDoor.ML
open Go.RowKit
set_option linter.unusedVariables false
set_option linter.unusedSimpArgs false
theorem tdiv_neg10 {n : Int} (h : n < 0) : n.tdiv 10 = -(-n / 10) := by
  have : n = -(-n) := by omega
  rw [this, Int.neg_tdiv, Int.tdiv_eq_ediv_of_nonneg (by omega)]
  simp
theorem tmod_neg10 {n : Int} (h : n < 0) : n.tmod 10 = -(-n % 10) := by
  have : n = -(-n) := by omega
  rw [this, Int.neg_tmod, Int.tmod_eq_emod_of_nonneg (by omega)]
  simp
theorem tdiv_pos10 {n : Int} (h : 0 ≤ n) : n.tdiv 10 = n / 10 := Int.tdiv_eq_ediv_of_nonneg h
theorem tmod_pos10 {n : Int} (h : 0 ≤ n) : n.tmod 10 = n % 10 := Int.tmod_eq_emod_of_nonneg h
abbrev bMi : ByteArray := ⟨#[45]⟩
theorem ba_app (l l' : List UInt8) : (⟨l.toArray⟩ : ByteArray) ++ ⟨l'.toArray⟩ = ⟨(l ++ l').toArray⟩ := by
  apply ByteArray.ext
  rw [ByteArray.data_append]; simp
theorem itoa_pos {n : Int} (h : 0 ≤ n) : Lib.itoa n = Lib.decDigits n.toNat := by unfold Lib.itoa; rw [if_neg (by omega)]
theorem itoa_m {n : Int} (h : n < 0) : Lib.itoa n = 45 :: Lib.decDigits (-n).toNat := by unfold Lib.itoa; rw [if_pos h, show n.natAbs = (-n).toNat by omega]
theorem dec_app {u : Nat} (h : 10 ≤ u) : Lib.decDigits u = Lib.decDigits (u / 10) ++ Lib.decDigits (u % 10) := by
  rw [Lib.decDigits, dif_neg (by omega), Lib.decDigits_one (by omega : u % 10 < 10)]
theorem itoaS_neg1 {n : Int} (h : n < 0) : bMi ++ itoaS (0 - n) = itoaS n := by
  unfold itoaS
  rw [show (0 - n) = -n by omega, itoa_pos (by omega : 0 ≤ -n), itoa_m h]
  exact ba_app [45] _
theorem itoaS_neg2 {n : Int} (h : n ≤ -10) : itoaS (n.tdiv 10) ++ itoaS (0 - n.tmod 10) = itoaS n := by
  unfold itoaS
  rw [tdiv_neg10 (by omega), tmod_neg10 (by omega), ba_app, itoa_m (by omega : n < 0), itoa_m (by omega : -(-n / 10) < 0), show (0 - -(-n % 10)) = -n % 10 by omega, itoa_pos (by omega : 0 ≤ -n % 10), dec_app (u := (-n).toNat) (by omega)]
  rw [show (- -(-n / 10)).toNat = (-n).toNat / 10 by omega, show (-n % 10).toNat = (-n).toNat % 10 by omega]
  rfl
theorem itoaS_pos2 {n : Int} (h : 9 < n) : itoaS (n.tdiv 10) ++ itoaS (n.tmod 10) = itoaS n := by
  unfold itoaS
  rw [tdiv_pos10 (by omega), tmod_pos10 (by omega), ba_app, itoa_pos (by omega : 0 ≤ n), itoa_pos (by omega : 0 ≤ n / 10), itoa_pos (by omega : 0 ≤ n % 10), dec_app (u := n.toNat) (by omega)]
  rw [show (n / 10).toNat = n.toNat / 10 by omega, show (n % 10).toNat = n.toNat % 10 by omega]
abbrev bDig : ByteArray := ⟨#[48, 49, 50, 51, 52, 53, 54, 55, 56, 57]⟩
theorem itoaS_dig_fin : ∀ i : Fin 10, bDig.extract i.val (i.val + 1) = (⟨#[UInt8.ofNat (48 + i.val)]⟩ : ByteArray) := by decide +kernel
theorem itoaS_dig {n : Int} (h0 : 0 ≤ n) (h : n ≤ 9) : bDig.extract n.toNat (n + 1).toNat = itoaS n := by
  have h1 := itoaS_dig_fin ⟨n.toNat, by omega⟩
  dsimp only at h1
  rw [show (n + 1).toNat = n.toNat + 1 by omega, h1]
  unfold itoaS
  rw [itoa_pos h0, Lib.decDigits_one (by omega)]
/-- The texts are short. -/
theorem itoaS_size {n : Int} (h0 : -9223372036854775808 ≤ n) (h1 : n ≤ 9223372036854775807) : (itoaS n).size ≤ 21 := Lib.itoa_length_le n h0 h1
mutual
def cnN : VT → Nat
  | .mk _ _ l => cnNL l + 1
def cnNL : List VT → Nat
  | [] => 0
  | v :: l => cnN v + cnNL l
end
mutual
theorem szV_cn : ∀ (v : VT) (n : Int), szV 60 v n ≤ 60 → szV 60 v n = n + cnN v
  | .mk _ _ l, n, h => by
    rw [szV] at h ⊢
    rw [szL_cn l (n + 1) h, cnN]; push_cast; omega
theorem szL_cn : ∀ (l : List VT) (n : Int), szL 60 l n ≤ 60 → szL 60 l n = n + cnNL l
  | [], n, h => by rw [szL, cnNL]; simp
  | v :: l, n, h => by
    rw [szL] at h ⊢
    split at h
    · rename_i hn
      rw [if_pos hn, cnNL]
      by_cases hv : szV 60 v n ≤ 60
      · rw [szL_cn l _ h, szV_cn v n hv]; push_cast; omega
      · rw [szL_stop 60 l _ (by omega)] at h; exact absurd h hv
    · rename_i hn; exact absurd h hn
end
end Go.Proofs.YtieaiheejhmbfaaGreatDoor.ML
/- Walks of functions of the program, in the abstract layer. No conditions. -/
namespace Go.Proofs.YtieaiheejhmbfaaGreatDoor.ML
open Go.RowKit
set_option linter.unusedVariables false
set_option linter.unusedSimpArgs false
set_option maxHeartbeats 1600000 in
set_option synthInstance.maxHeartbeats 400000 in
set_option synthInstance.maxSize 100000 in
set_option maxRecDepth 100000 in
theorem r_number_c : ∀ (z : Nat) (n : Int), (0 ≤ n ∧ n < z) ∨ (n < 0 ∧ -n + 20 < z) → -9223372036854775808 ≤ n ∧ n ≤ 9223372036854775807 → ∀ (M : Mem) (H : Heap),
    AC Tryz.prog 75 [.int .i64 n] M H fun r _ H' => r = .string (itoaS n) ∧ H' = H
  | 0, n, hz, _ => by omega
  | z + 1, n, hz, hr => by
    intro M H
    refine AC.of (n := 31) Tryz.func75 rfl rfl ?_
    dsimp only [List.replicate, List.cons_append, List.nil_append]
    refine AW.seq ?_
    refine AW.region ?_
    refine st V.assign ?_
    refine sn ?_
    refine AW.seq ?_
    refine AW.seq ?_
    refine AW.region ?_
    refine st V.move ?_
    refine st V.lss ?_
    refine sn ?_
    refine cond (fun h1 => ?_) (fun h1 => ?_)
    ·
      have k1 := bp h1
      refine AW.seq ?_
      refine AW.seq ?_
      refine AW.region ?_
      refine st V.move ?_
      refine st V.gtr ?_
      refine sn ?_
      refine cond (fun h2 => ?_) (fun h2 => ?_)
      ·
        have k2 := bp h2
        refine AW.seq ?_
        refine AW.region ?_
        refine st V.move ?_
        refine st V.neg ?_
        rw [wrap64_in (by omega)]
        refine se (S.call ?_)
        refine (r_number_c z (0 - n) (by omega) (by omega) _ _).use ?_
        rintro v3 N3 G3 iz3 ⟨rfl, hG⟩
        obtain rfl := hG.symm
        have hz3 := itoaS_size (n := 0 - n) (by omega) (by omega)
        have s45 : (ByteArray.mk #[45]).size = 1 := rfl
        refine st (V.cat (by omega)) ?_
        refine st V.assign ?_
        refine sn ?_
        refine AW.ret ?_
        repeat with_reducible first | refine thn_ret ?_ | refine inb_ret ?_
        refine fin (Res.i1 rfl) ?_
        exact ⟨_, (by repeat first | exact List.Sublist.refl _ | apply List.Sublist.cons), by rw [itoaS_neg1 (by omega)], rfl⟩
      ·
        have k2 := bp h2
        refine AW.skip ?_
        refine AW.seq ?_
        have hq := tdiv_neg10 (n := n) (by omega)
        have hm := tmod_neg10 (n := n) (by omega)
        refine AW.region ?_
        refine st V.move ?_
        refine st (V.quo (by decide)) ?_
        rw [wrap64_in (by omega)]
        refine se (S.call ?_)
        refine (r_number_c z (n.tdiv 10) (by omega) (by omega) _ _).use ?_
        rintro v4 N4 G4 iz4 ⟨rfl, hG⟩
        obtain rfl := hG.symm
        refine st V.move ?_
        refine st (V.rem (by decide)) ?_
        refine st V.neg ?_
        rw [wrap64_in (by omega)]
        refine se (S.call ?_)
        refine (r_number_c z (0 - n.tmod 10) (by omega) (by omega) _ _).use ?_
        rintro v5 N5 G5 iz5 ⟨rfl, hG⟩
        obtain rfl := hG.symm
        have hz3 := itoaS_size (n := n.tdiv 10) (by omega) (by omega)
        have hz4 := itoaS_size (n := 0 - n.tmod 10) (by omega) (by omega)
        refine st (V.cat (by omega)) ?_
        refine st V.assign ?_
        refine sn ?_
        refine AW.ret ?_
        repeat with_reducible first | refine thn_ret ?_ | refine inb_ret ?_
        refine fin (Res.i1 rfl) ?_
        exact ⟨_, (by repeat first | exact List.Sublist.refl _ | apply List.Sublist.cons), by rw [itoaS_neg2 (by omega)], rfl⟩
    ·
      have k1 := bp h1
      refine AW.skip ?_
      refine AW.seq ?_
      refine AW.seq ?_
      refine AW.region ?_
      refine st V.move ?_
      refine st V.gtr ?_
      refine sn ?_
      refine cond (fun h3 => ?_) (fun h3 => ?_)
      ·
        have k3 := bp h3
        refine AW.seq ?_
        have hq := tdiv_pos10 (n := n) (by omega)
        have hm := tmod_pos10 (n := n) (by omega)
        refine AW.region ?_
        refine st V.move ?_
        refine st (V.quo (by decide)) ?_
        rw [wrap64_in (by omega)]
        refine se (S.call ?_)
        refine (r_number_c z (n.tdiv 10) (by omega) (by omega) _ _).use ?_
        rintro v6 N6 G6 iz6 ⟨rfl, hG⟩
        obtain rfl := hG.symm
        refine st V.move ?_
        refine st (V.rem (by decide)) ?_
        refine se (S.call ?_)
        refine (r_number_c z (n.tmod 10) (by omega) (by omega) _ _).use ?_
        rintro v7 N7 G7 iz7 ⟨rfl, hG⟩
        obtain rfl := hG.symm
        have hz3 := itoaS_size (n := n.tdiv 10) (by omega) (by omega)
        have hz4 := itoaS_size (n := n.tmod 10) (by omega) (by omega)
        refine st (V.cat (by omega)) ?_
        refine st V.assign ?_
        refine sn ?_
        refine AW.ret ?_
        repeat with_reducible first | refine thn_ret ?_ | refine inb_ret ?_
        refine fin (Res.i1 rfl) ?_
        exact ⟨_, (by repeat first | exact List.Sublist.refl _ | apply List.Sublist.cons), by rw [itoaS_pos2 (by omega)], rfl⟩
      ·
        have k3 := bp h3
        refine AW.skip ?_
        refine AW.seq ?_
        have s10 : (ByteArray.mk #[48, 49, 50, 51, 52, 53, 54, 55, 56, 57]).size = 10 := rfl
        refine AW.region ?_
        refine st V.move ?_
        refine st V.move ?_
        refine st (V.add64 (by omega)) ?_
        refine st (V.sub1 (by omega) (by omega) (by omega)) ?_
        refine st V.assign ?_
        refine sn ?_
        refine AW.ret ?_
        repeat with_reducible first | refine thn_ret ?_ | refine inb_ret ?_
        refine fin (Res.i1 rfl) ?_
        exact ⟨_, (by repeat first | exact List.Sublist.refl _ | apply List.Sublist.cons), by rw [itoaS_dig (by omega) (by omega)], rfl⟩
set_option maxHeartbeats 1600000 in
set_option synthInstance.maxHeartbeats 400000 in
set_option synthInstance.maxSize 100000 in
set_option maxRecDepth 100000 in
theorem r_write_c (d : List DT) (hT : TypedP d) : ∀ (z : Nat) (v : VT), SizeOf.sizeOf v < z → ∀ (t : Int), TyV d t v → RgV v → (txV d t v).size ≤ 1000000000 → ∀ (M : Mem) (H : Heap) (Ad : Option Addr) (cd : Nat) (A : Option Addr) (c : Nat), RdS 2 (RdD M) Ad cd d → VV M A c v →
    AC Tryz.prog 45 [.slice Ad d.length cd, .int .i64 t, .agg #[.int .i64 v.num, .int .i64 v.con, .slice A v.args.length c]] M H fun r _ H' => r = .string (txV d t v) ∧ H' = H
  | 0, _, hz => by omega
  | z + 1, v, hz => by
    intro t hty hrg hs M H Ad cd A c hd hv
    have hbd := hd.bd
    have hba : v.args.length ≤ 140737488355328 := RdS.bd hv
    refine AC.of (n := 77) Tryz.func45 rfl rfl ?_
    dsimp only [List.replicate, List.cons_append, List.nil_append]
    refine AW.seq ?_
    refine AW.region ?_
    refine se (S.boxM ?_); intro b5 M5 i5 j5
    refine st V.assign ?_
    refine sn ?_
    refine AW.seq ?_
    refine AW.seq ?_
    refine AW.region ?_
    refine st V.move ?_
    refine st V.eql ?_
    refine sn ?_
    refine cond (fun h1 => ?_) (fun h1 => ?_)
    ·
      have k1 := bp h1
      refine AW.seq ?_
      refine AW.region ?_
      refine st V.fa0 ?_
      first | refine st V.ld ?_ | refine sq V.lo ?_
      refine se (S.call ?_)
      refine (r_number_c 10000000000000000000 v.num (by have := hrg.num; omega) hrg.num _ _).use ?_
      rintro v2 N2 G2 iz2 ⟨rfl, hG⟩
      obtain rfl := hG.symm
      refine st V.assign ?_
      refine sn ?_
      refine AW.ret ?_
      repeat with_reducible first | refine thn_ret ?_ | refine inb_ret ?_
      refine fin (Res.i1 rfl) ?_
      obtain rfl : t = 0 := by simpa using k1
      exact ⟨_, (by repeat first | exact List.Sublist.refl _ | apply List.Sublist.cons), by rw [txV_0], rfl⟩
    ·
      have k1 := bp h1
      obtain ⟨p, k, hp0, hk', rfl, hnum, hk, hal, hch⟩ := hty.conE k1
      have htx := txV_c d p hp0 v k hk hk'
      obtain ⟨b8, o8, hA8, i0, ib0, A8, c8, i1, i2⟩ := (hd.upD (M' := M5)).at p hp0
      have hb8 := i2.bd
      obtain ⟨b9, o9, hA9, e0, eb, A9, c9, e1, e2⟩ := i2.at k hk'
      have hb9 := e2.bd
      refine AW.skip ?_
      refine AW.seq ?_
      refine AW.regionD mx true [0, 1, 2, 3, 4, 5, 6, 7, 8, 9, 10, 11] [[], [], [1], [0, 1, 2], [0, 1, 2, 3], [0, 1, 2, 3, 4], [], [6], [0, 1, 2, 3, 4, 5, 6, 7], [0, 1, 2, 3, 4, 5, 6, 7, 8], [], [0, 1, 2, 3, 4, 5, 6, 7, 8, 9, 10]] (by kernel_rfl) ?_
      refine D.p rfl rfl V.move ?_
      refine D.p rfl rfl V.move ?_
      refine D.p rfl rfl (V.sub64 (by omega)) ?_
      refine D.p rfl rfl (V.ib p (by omega) hp0 hA8) ?_
      refine D.p rfl rfl V.fa ?_
      refine D.p rfl rfl V.ld ?_
      refine D.p rfl rfl V.faz ?_
      refine D.p rfl rfl V.ld ?_
      refine D.p rfl rfl (V.ib k hk hk' hA9) ?_
      refine D.p rfl rfl V.ldA ?_
      refine D.e rfl rfl (S.alloc ?_); intro b7
      refine D.e rfl rfl (S.storeA rfl ?_)
      refine D.nl ?_
      refine AW.seq ?_
      refine AW.fz 0 fun Mv iv jv => ?_
      refine AW.region ?_
      refine st V.fa0 ?_
      first | refine st V.ld ?_ | refine sq V.lo ?_
      refine st V.assign ?_
      refine sn ?_
      refine AW.seq ?_
      refine AW.seq ?_
      refine AW.region ?_
      refine st V.assign ?_
      refine sn ?_
      refine AW.block ?_
      refine AW.loopL [8, 9] (10 :: 28 :: 29 :: 30 :: 31 :: 32 :: 33 :: 34 :: 35 :: 36 :: 37 :: 38 :: 39 :: 40 :: 41 :: 42 :: 43 :: 44 :: 45 :: 46 :: 47 :: 48 :: 49 :: 50 :: 51 :: 52 :: 53 :: 54 :: 55 :: 56 :: 57 :: 58 :: 59 :: 60 :: 61 :: 62 :: 63 :: 64 :: 65 :: 66 :: 67 :: 68 :: 69 :: 70 :: 71 :: 72 :: 73 :: 74 :: 75 :: 76 :: 77 :: 78 :: []) (fun m vs M' H' => ∃ (i : Nat) (cur : ByteArray), vs = [.string cur, .int .i64 (i : Int)] ∧ H' = H ∧ i + m = v.args.length ∧ cur ++ txL d (d[p].cons[k].fields.drop i) (v.args.drop i) = txV d ((p : Int) + 1) v) (v.args.length) (⟨0, d[p].cons[k].name, rfl, rfl, by omega, by rw [htx]; rfl⟩) ?_
      intro m Ml Hl iL u8 u9 hI u10 u28 u29 u30 u31 u32 u33 u34 u35 u36 u37 u38 u39 u40 u41 u42 u43 u44 u45 u46 u47 u48 u49 u50 u51 u52 u53 u54 u55 u56 u57 u58 u59 u60 u61 u62 u63 u64 u65 u66 u67 u68 u69 u70 u71 u72 u73 u74 u75 u76 u77 u78
      obtain ⟨i, cur, hv', hH, hi, hw⟩ := hI
      obtain rfl := hH.symm
      cases hv'
      refine sa ?_
      refine AW.seq ?_
      refine AW.seq ?_
      refine AW.region ?_
      refine st V.move ?_
      refine st V.faz ?_
      first | refine st V.ld ?_ | refine sq V.lo ?_
      refine st V.len ?_
      refine st V.lss ?_
      refine sn ?_
      refine cond (fun h2 => ?_) (fun h2 => ?_)
      ·
        have k2 := bp h2
        refine AW.skip ?_
        refine AW.seq ?_
        refine AW.block ?_
        refine AW.seq ?_
        have z6 : i < v.args.length := by omega
        have z7 : i < d[p].cons[k].fields.length := by omega
        obtain ⟨ba, oa, hAa, ea⟩ := (VV.up (M' := Ml) hv).at i z6
        obtain ⟨Ax, cx, x0, x1, x2, xs⟩ := ea.get
        have hbx := xs.bd
        obtain ⟨b5, o5, hA5, e5⟩ := (e2.upI (M' := Ml)).at i z7
        have e5 : Mk Ml b5 (o5 + i * 1) (.int .i64 d[p].cons[k].fields[i]) := e5
        have hat := txL_at d d[p].cons[k].fields v.args i z6 z7
        have hcs := congrArg ByteArray.size hw
        rw [hat] at hcs
        simp only [ByteArray.size_append] at hcs
        have y1 : bSp.size = 1 := rfl
        have y2 : bLp.size = 1 := rfl
        have y3 : bRp.size = 1 := rfl
        have s32 : (ByteArray.mk #[32]).size = 1 := rfl
        have s40 : (ByteArray.mk #[40]).size = 1 := rfl
        have s41 : (ByteArray.mk #[41]).size = 1 := rfl
        have hxz : (txV d d[p].cons[k].fields[i] v.args[i]).size + cur.size ≤ 1000000000 := by split at hcs <;> (try simp only [ByteArray.size_append] at hcs) <;> omega
        refine AW.regionD mx true [0, 1, 2, 3, 4, 5, 6, 7, 8, 9, 10, 11, 12] [[], [], [1], [], [1, 2, 3], [1, 2, 3, 4], [], [6], [], [6, 7, 8], [6, 7, 8, 9], [0, 1, 2, 3, 4, 5, 6, 7, 8, 9, 10], [0, 1, 2, 3, 4, 5, 6, 7, 8, 9, 10, 11]] (by kernel_rfl) ?_
        refine D.p rfl rfl V.move ?_
        refine D.p rfl rfl V.faz ?_
        refine D.p rfl rfl V.ld ?_
        refine D.p rfl rfl V.move ?_
        refine D.p rfl rfl (V.ib i rfl z7 hA5) ?_
        refine D.p rfl rfl V.ld ?_
        refine D.p rfl rfl V.faz ?_
        refine D.p rfl rfl V.ld ?_
        refine D.p rfl rfl V.move ?_
        refine D.p rfl rfl (V.ib i rfl z6 hAa) ?_
        refine D.p rfl rfl V.ldA ?_
        refine D.e rfl rfl (S.call ?_)
        refine (r_write_c d hT z v.args[i] (by have := List.sizeOf_lt_of_mem (List.getElem_mem z6); cases v; simp [VT.args] at *; omega) _ (hch i z6 z7) (hrg.mem (List.getElem_mem z6)) (by omega) _ _ Ad cd Ax cx hd.upD (VV.up (x := v.args[i]) xs)).use ?_
        rintro v8 N8 G8 iz8 ⟨rfl, hG⟩
        obtain rfl := hG.symm
        refine D.p rfl rfl V.assign ?_
        refine D.nl ?_
        refine AW.cutL [10] (47 :: 48 :: 49 :: 50 :: 51 :: 52 :: 53 :: 54 :: 55 :: 56 :: 57 :: 58 :: 59 :: 60 :: 61 :: 62 :: 63 :: 64 :: 65 :: 66 :: 67 :: 68 :: 69 :: 70 :: 71 :: 72 :: 73 :: 74 :: []) (fun vs M' H' => ∃ x : ByteArray, vs = [.string x] ∧ H' = H ∧ x = (if v.args[i].args.length = 0 ∧ 0 ≤ v.args[i].num then txV d d[p].cons[k].fields[i] v.args[i] else bLp ++ txV d d[p].cons[k].fields[i] v.args[i] ++ bRp)) ?_ ?_
        ·
          refine AW.seq ?_
          refine AW.region ?_
          refine st V.faz ?_
          first | refine st V.ld ?_ | refine sq V.lo ?_
          refine st V.move ?_
          refine st (V.ib i rfl z6 hAa) ?_
          refine st V.fa ?_
          first | refine st V.ld ?_ | refine sq V.lo ?_
          refine st V.len ?_
          refine st V.gtr ?_
          refine st V.move ?_
          refine onoff true rfl rfl (fun h3 => ?_) (fun h3 => ?_)
          ·
            have k3 := bp h3
            refine st V.faz ?_
            refine on rfl h3 ?_
            first | refine st V.ld ?_ | refine sq V.lo ?_
            refine on rfl h3 ?_
            refine st V.move ?_
            refine on rfl h3 ?_
            refine st (V.ib i rfl z7 hA5) ?_
            refine on rfl h3 ?_
            first | refine st V.ld ?_ | refine sq V.lo ?_
            refine on rfl h3 ?_
            refine st V.eql ?_
            refine on rfl h3 ?_
            refine st V.move ?_
            refine onoff false rfl rfl (fun h4 => ?_) (fun h4 => ?_)
            ·
              have k4 := bp h4
              refine st V.faz ?_
              refine on rfl h4 ?_
              first | refine st V.ld ?_ | refine sq V.lo ?_
              refine on rfl h4 ?_
              refine st V.move ?_
              refine on rfl h4 ?_
              refine st (V.ib i rfl z6 hAa) ?_
              refine on rfl h4 ?_
              refine st V.fa0 ?_
              refine on rfl h4 ?_
              first | refine st V.ld ?_ | refine sq V.lo ?_
              refine on rfl h4 ?_
              refine st V.lss ?_
              refine on rfl h3 ?_
              refine st (V.pT h4) ?_
              refine st (V.pF h3) ?_
              refine sn ?_
              refine cond (fun h5 => ?_) (fun h5 => ?_)
              ·
                have k5 := bp h5
                refine AW.region ?_
                refine st V.move ?_
                refine st (V.cat (by omega)) ?_
                refine st (V.cat (by simp only [ByteArray.size_append]; omega)) ?_
                refine st V.assign ?_
                refine sn ?_
                repeat with_reducible refine inb_normal ?_
                refine thn_normal ?_
                exact met _ (List.Sublist.refl _) ⟨_, rfl, rfl, by rw [if_neg (by omega)]⟩
              ·
                have k5 := bp h5
                refine AW.skip ?_
                repeat with_reducible refine inb_normal ?_
                refine thn_normal ?_
                exact met _ (List.Sublist.refl _) ⟨_, rfl, rfl, by rw [if_pos (by omega)]⟩
            ·
              have k4 := bp h4
              refine off rfl h4 ?_
              refine off rfl h4 ?_
              refine off rfl h4 ?_
              refine off rfl h4 ?_
              refine off rfl h4 ?_
              refine off rfl h4 ?_
              refine on rfl h3 ?_
              refine st (V.pF h4) ?_
              refine st (V.pF h3) ?_
              refine sn ?_
              refine cond (fun h => by cases h) (fun _ => ?_)
              refine AW.skip ?_
              repeat with_reducible refine inb_normal ?_
              refine thn_normal ?_
              have hnu : v.args[i].num = 0 := by obtain ⟨_, _, _, _, _, hnu, _⟩ := (hch i z6 z7).conE (by assumption); exact hnu
              exact met _ (List.Sublist.refl _) ⟨_, rfl, rfl, by rw [if_pos (by omega)]⟩
          ·
            have k3 := bp h3
            refine off rfl h3 ?_
            refine off rfl h3 ?_
            refine off rfl h3 ?_
            refine off rfl h3 ?_
            refine off rfl h3 ?_
            refine off rfl h3 ?_
            refine offU rfl ?_
            refine offU rfl ?_
            refine offU rfl ?_
            refine offU rfl ?_
            refine offU rfl ?_
            refine offU rfl ?_
            refine offU rfl ?_
            refine off rfl h3 ?_
            refine st (V.pT h3) ?_
            refine sn ?_
            refine cond (fun _ => ?_) (fun h => by cases h)
            refine AW.region ?_
            refine st V.move ?_
            refine st (V.cat (by omega)) ?_
            refine st (V.cat (by simp only [ByteArray.size_append]; omega)) ?_
            refine st V.assign ?_
            refine sn ?_
            repeat with_reducible refine inb_normal ?_
            refine thn_normal ?_
            exact met _ (List.Sublist.refl _) ⟨_, rfl, rfl, by rw [if_neg (by omega)]⟩
        ·
          intro Mc11 Hc11 iC11 u10 hJ u47 u48 u49 u50 u51 u52 u53 u54 u55 u56 u57 u58 u59 u60 u61 u62 u63 u64 u65 u66 u67 u68 u69 u70 u71 u72 u73 u74
          obtain ⟨x, hv', hH, hx⟩ := hJ
          obtain rfl := hH.symm
          cases hv'
          have hxs : x.size ≤ (txV d d[p].cons[k].fields[i] v.args[i]).size + 2 := by rw [hx]; split <;> (try simp only [ByteArray.size_append]) <;> omega
          refine sa ?_
          refine AW.region ?_
          refine st V.move ?_
          refine st (V.cat (by omega)) ?_
          refine st V.move ?_
          refine st (V.cat (by simp only [ByteArray.size_append]; omega)) ?_
          refine st V.assign ?_
          refine sn ?_
          refine AW.region ?_
          refine st V.move ?_
          refine st (V.add64 (by omega)) ?_
          refine st V.assign ?_
          refine sn ?_
          repeat with_reducible refine inb_normal ?_
          refine thn_normal ?_
          refine rnd (m - 1) _ (by omega) (List.Sublist.refl _) ⟨i + 1, cur ++ bSp ++ x, by simp, rfl, by omega, ?_⟩
          rw [← hw, hat, hx]; simp only [ByteArray.append_assoc]
      ·
        have k2 := bp h2
        refine AW.exit ?_
        repeat with_reducible refine thn_exit ?_
        refine inb_exit ?_
        refine AW.seq ?_
        refine AW.region ?_
        refine st V.move ?_
        refine st V.assign ?_
        refine sn ?_
        refine AW.ret ?_
        repeat with_reducible first | refine thn_ret ?_ | refine inb_ret ?_
        refine fin (Res.i1 rfl) ?_
        have hc : cur = txV d ((p : Int) + 1) v := by
          have e9 : txL d (d[p].cons[k].fields.drop i) (v.args.drop i) = ⟨#[]⟩ := by rw [List.drop_eq_nil_of_le (show v.args.length ≤ i by omega)]; unfold txL; rfl
          rw [← hw, e9, ba_nil]
        exact ⟨_, (by repeat first | exact List.Sublist.refl _ | apply List.Sublist.cons), by rw [hc], rfl⟩
set_option maxHeartbeats 1600000 in
set_option synthInstance.maxHeartbeats 400000 in
set_option synthInstance.maxSize 100000 in
set_option maxRecDepth 100000 in
theorem r_text_c (M : Mem) (H : Heap) (Ad : Option Addr) (cd : Nat) (d : List DT) (hd : RdS 2 (RdD M) Ad cd d) (t : Int) (A : Option Addr) (c : Nat) (v : VT) (hv : VV M A c v) (hrg : RgV v) (hb : (cellsF d t v).2 = 0 → (txV d t v).size ≤ 1000000000) :
    AC Tryz.prog 19 [.slice Ad d.length cd, .int .i64 t, .agg #[.int .i64 v.num, .int .i64 v.con, .slice A v.args.length c]] M H fun r _ H' => r = .tuple #[.string (textF d t v).1, .int .i64 (textF d t v).2] ∧ H' = H := by
  refine AC.of (n := 22) Tryz.func19 rfl rfl ?_
  dsimp only [List.replicate, List.cons_append, List.nil_append]
  refine AW.seq ?_
  refine AW.region ?_
  refine se (S.boxM ?_); intro b5 M5 i5 j5
  refine st V.assign ?_
  refine st V.assign ?_
  refine sn ?_
  refine AW.seq ?_
  refine AW.seq ?_
  refine AW.region ?_
  refine st V.move ?_
  refine st V.move ?_
  first | refine st V.ldA ?_ | refine sq V.loA ?_
  refine se (S.call ?_)
  refine (r_vcheck_c _ _ Ad cd d hd.upD t A c v (VV.up hv)).use ?_
  rintro v1 N1 G1 iz1 ⟨rfl, hG⟩
  obtain rfl := hG.symm
  refine st V.assign ?_
  refine sn ?_
  refine AW.seq ?_
  refine AW.region ?_
  refine st V.move ?_
  refine st V.neq ?_
  refine sn ?_
  refine cond (fun h1 => ?_) (fun h1 => ?_)
  ·
    have k1 := bp h1
    refine AW.seq ?_
    refine AW.region ?_
    refine st V.move ?_
    refine st V.assign ?_
    refine st V.assign ?_
    refine sn ?_
    refine AW.ret ?_
    repeat with_reducible first | refine thn_ret ?_ | refine inb_ret ?_
    refine fin (Res.i2 rfl) ?_
    exact ⟨_, (by repeat first | exact List.Sublist.refl _ | apply List.Sublist.cons), by rw [textF, if_pos k1], rfl⟩
  ·
    have k1 := bp h1
    refine AW.skip ?_
    refine AW.seq ?_
    have hck := cells_ok k1
    refine AW.region ?_
    refine st V.move ?_
    refine st V.move ?_
    first | refine st V.ldA ?_ | refine sq V.loA ?_
    refine se (S.call ?_)
    refine (r_write_c d hck.1 (SizeOf.sizeOf v + 1) v (by omega) t (cells_ty k1) hrg (hb k1) _ _ Ad cd A c hd.upD (VV.up hv)).use ?_
    rintro v4 N4 G4 iz4 ⟨rfl, hG⟩
    obtain rfl := hG.symm
    refine st V.assign ?_
    refine sn ?_
    refine AW.seq ?_
    refine AW.seq ?_
    refine AW.region ?_
    refine st V.move ?_
    refine st V.lenS ?_
    refine st V.gtr ?_
    refine sn ?_
    refine cond (fun h2 => ?_) (fun h2 => ?_)
    ·
      have k2 := bp h2
      refine AW.seq ?_
      refine AW.region ?_
      refine st V.assign ?_
      refine st V.assign ?_
      refine sn ?_
      refine AW.ret ?_
      repeat with_reducible first | refine thn_ret ?_ | refine inb_ret ?_
      refine fin (Res.i2 rfl) ?_
      exact ⟨_, (by repeat first | exact List.Sublist.refl _ | apply List.Sublist.cons), by rw [textF, if_neg (fun h => h k1), if_pos (by omega)], rfl⟩
    ·
      have k2 := bp h2
      refine AW.skip ?_
      refine AW.seq ?_
      refine AW.region ?_
      refine st V.move ?_
      refine st V.assign ?_
      refine st V.assign ?_
      refine sn ?_
      refine AW.ret ?_
      repeat with_reducible first | refine thn_ret ?_ | refine inb_ret ?_
      refine fin (Res.i2 rfl) ?_
      exact ⟨_, (by repeat first | exact List.Sublist.refl _ | apply List.Sublist.cons), by rw [textF, if_neg (fun h => h k1), if_neg (by omega)], rfl⟩
end Go.Proofs.YtieaiheejhmbfaaGreatDoor.ML
