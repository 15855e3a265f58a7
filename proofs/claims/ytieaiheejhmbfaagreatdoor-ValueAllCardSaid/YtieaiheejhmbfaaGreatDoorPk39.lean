/- Walks of functions of the program, in the abstract layer. No conditions. -/
import Derived.Test.YtieaiheejhmbfaaGreatDoorPk38
import Derived.Test.YtieaiheejhmbfaaGreatDoorPk22
namespace Go.Proofs.YtieaiheejhmbfaaGreatDoor.ML
open Go.RowKit
set_option linter.unusedVariables false
set_option linter.unusedSimpArgs false
set_option maxHeartbeats 1600000 in
set_option synthInstance.maxHeartbeats 400000 in
set_option synthInstance.maxSize 100000 in
set_option maxRecDepth 100000 in
theorem r_all_c (cp : Nat) (hcp : 2 ≤ cp ∧ cp ≤ 1000) (M : Mem) (H : Heap) (Ad : Option Addr) (cd : Nat) (d : List DT) (hd : RdS 2 (RdD M) Ad cd d) (t most : Int) (hm : most ≤ 1000) :
    AC Tryz.prog 24 [.slice Ad d.length cd, .int .i64 t, .int .i64 most, .int .i64 cp] M H fun r M' H' => ∃ A c, r = .slice A ((allV d t most).take cp).length c ∧ RdS 3 (RdV M') A c ((allV d t most).take cp) ∧ H' = H := by
  refine AC.of (n := 49) Tryz.func24 rfl rfl ?_
  dsimp only [List.replicate, List.cons_append, List.nil_append]
  refine AW.seq ?_
  refine AW.region ?_
  refine st V.assign ?_
  refine sn ?_
  refine AW.seq ?_
  refine AW.region ?_
  refine st V.assign ?_
  refine sn ?_
  refine AW.seq ?_
  refine AW.seq ?_
  refine AW.region ?_
  refine st V.move ?_
  refine st V.move ?_
  refine se (S.call ?_)
  refine (r_table_c _ _ Ad cd d hd.upD t).use ?_
  rintro v2 N2 G2 iz2 ⟨rfl, hG⟩
  obtain rfl := hG.symm
  refine st V.neq ?_
  refine sn ?_
  refine cond (fun h1 => ?_) (fun h1 => ?_)
  ·
    have k1 := bp h1
    refine AW.seq ?_
    refine AW.region ?_
    refine st V.assign ?_
    refine sn ?_
    refine AW.ret ?_
    repeat with_reducible first | refine thn_ret ?_ | refine inb_ret ?_
    refine fin (Res.i1 rfl) ?_
    have e0 : (allV d t most).take cp = [] := by rw [al_bad k1, List.take_nil]
    rw [e0]
    refine ⟨_, List.Sublist.refl _, none, 0, rfl, RdS.nil, rfl⟩
  ·
    have k1 := bp h1
    refine AW.skip ?_
    refine AW.seq ?_
    refine AW.seq ?_
    obtain ⟨hc0, ht⟩ := tableF_ok k1
    have hT := (checkF_ok hc0).2.2.2.1
    obtain ⟨hB, hdl⟩ := checkF_bd hc0
    refine AW.region ?_
    refine st V.assign ?_
    refine sn ?_
    refine AW.block ?_
    refine AW.row0 26 3 ?_
    refine AW.loopL [9, 10] (11 :: 12 :: 17 :: 18 :: 19 :: 20 :: 21 :: 22 :: 23 :: 24 :: 25 :: 26 :: 27 :: 28 :: 29 :: 30 :: 31 :: 32 :: 33 :: 34 :: 35 :: 36 :: 37 :: 38 :: 39 :: 40 :: 41 :: 42 :: 43 :: 44 :: 45 :: 46 :: 47 :: 48 :: 49 :: 50 :: 51 :: []) (fun q vs M' H' => ∃ (k : Nat) (l : List VT) (A' : Option Addr) (c' : Nat) (cs : List Value), vs = [.slice A' l.length c', .int .i64 (k : Int)] ∧ H' = .row A' l.length c' 26 3 cs :: H ∧ k + q = (most + 1).toNat ∧ FlV M' cs l ∧ l = (alQ d t k).take cp) ((most + 1).toNat) (⟨0, [], none, 0, [], rfl, rfl, by omega, rfl, by rw [alQ, List.range_zero, List.flatMap_nil, List.take_nil]⟩) ?_
    intro q Ml Hl iL u9 u10 hI u11 u12 u17 u18 u19 u20 u21 u22 u23 u24 u25 u26 u27 u28 u29 u30 u31 u32 u33 u34 u35 u36 u37 u38 u39 u40 u41 u42 u43 u44 u45 u46 u47 u48 u49 u50 u51
    obtain ⟨k, l, A', c', cs, hv, hH, hk, hf, hl⟩ := hI
    subst hH
    cases hv
    refine sa ?_
    refine AW.seq ?_
    refine AW.seq ?_
    refine AW.region ?_
    refine st V.move ?_
    refine st V.move ?_
    refine st V.leq ?_
    refine st V.move ?_
    refine onoff false rfl rfl (fun h2 => ?_) (fun h2 => ?_)
    ·
      have k2 := bp h2
      refine st V.move ?_
      refine on rfl h2 ?_
      refine st V.len ?_
      refine on rfl h2 ?_
      refine st V.move ?_
      refine on rfl h2 ?_
      refine st V.lss ?_
      refine st (V.pT h2) ?_
      refine sn ?_
      refine cond (fun h3 => ?_) (fun h3 => ?_)
      ·
        have k3 := bp h3
        refine AW.skip ?_
        refine AW.seq ?_
        refine AW.block ?_
        refine AW.seq ?_
        refine AW.region ?_
        refine st V.move ?_
        refine st V.move ?_
        refine st V.move ?_
        refine st V.move ?_
        refine se (S.call ?_)
        refine (r_exV_c d hT hB cp hcp t k (by omega) ht _ _ Ad cd hd.upD).use ?_
        rintro v7 N7 G7 iz7 ⟨A7, c7, rfl, r7, hG⟩
        obtain rfl := hG.symm
        have hxl : ((exV d t k).take cp).length ≤ cp := by rw [List.length_take]; omega
        refine st V.assign ?_
        refine sn ?_
        refine AW.seq ?_
        refine AW.region ?_
        refine st V.assign ?_
        refine sn ?_
        refine AW.block ?_
        refine AW.loopL [9, 12] (33 :: 34 :: 35 :: 36 :: 37 :: 38 :: 39 :: 40 :: 41 :: 42 :: 43 :: 44 :: 45 :: 46 :: 47 :: 48 :: 49 :: 50 :: 51 :: []) (fun q vs M' H' => ∃ (j : Nat) (l : List VT) (A' : Option Addr) (c' : Nat) (cs : List Value), vs = [.slice A' l.length c', .int .i64 (j : Int)] ∧ H' = .row A' l.length c' 26 3 cs :: H ∧ j + q = ((exV d t k).take cp).length ∧ FlV M' cs l ∧ l = (alQ d t k ++ ((exV d t k).take cp).take j).take cp) (((exV d t k).take cp).length) (⟨0, l, A', c', cs, rfl, rfl, by omega, hf.up, by simpa using hl⟩) ?_
        intro q1 Ml1 Hl1 iL1 u9 u12 hI1 u33 u34 u35 u36 u37 u38 u39 u40 u41 u42 u43 u44 u45 u46 u47 u48 u49 u50 u51
        obtain ⟨j, l, A', c', cs, hv, hH, hj, hf, hl⟩ := hI1
        subst hH
        cases hv
        refine sa ?_
        refine AW.seq ?_
        refine AW.seq ?_
        refine AW.region ?_
        refine st V.move ?_
        refine st V.move ?_
        refine st V.len ?_
        refine st V.lss ?_
        refine st V.move ?_
        refine onoff false rfl rfl (fun h4 => ?_) (fun h4 => ?_)
        ·
          have k4 := bp h4
          refine st V.move ?_
          refine on rfl h4 ?_
          refine st V.len ?_
          refine on rfl h4 ?_
          refine st V.move ?_
          refine on rfl h4 ?_
          refine st V.lss ?_
          refine st (V.pT h4) ?_
          refine sn ?_
          refine cond (fun h5 => ?_) (fun h5 => ?_)
          ·
            have k5 := bp h5
            refine AW.skip ?_
            refine AW.seq ?_
            refine AW.block ?_
            have zj : j < ((exV d t k).take cp).length := by omega
            obtain ⟨bq, oq, hAq, eq⟩ := (r7.upV (M' := Ml1)).at j zj
            obtain ⟨Ax, cx, x0, x1, x2, xs⟩ := eq.get
            refine AW.region ?_
            refine st V.move ?_
            refine st V.move ?_
            refine st V.move ?_
            refine st (V.ib j rfl zj hAq) ?_
            first | refine st V.ldA ?_ | refine sq V.loA ?_
            refine se (S.lit1 (by rfl) (by decide) ?_); intro g50
            refine se (S.ap1 (by rfl) (by omega) (by omega) ?_)
            intro A2 c2
            refine st V.assign ?_
            refine sn ?_
            refine AW.region ?_
            refine st V.move ?_
            refine st (V.add64 (by omega)) ?_
            refine st V.assign ?_
            refine sn ?_
            repeat with_reducible refine inb_normal ?_
            refine thn_normal ?_
            refine rnd (q1 - 1) _ (by omega) (List.Sublist.refl _) ⟨j + 1, l ++ [((exV d t k).take cp)[j]], A2, c2, _, by simp, by simp, by omega, hf.app (FlV.one xs), id_push hl (by omega) zj⟩
          ·
            have k5 := bp h5
            refine AW.exit ?_
            repeat with_reducible refine thn_exit ?_
            refine inb_exit ?_
            refine AW.region ?_
            refine st V.move ?_
            refine st (V.add64 (by omega)) ?_
            refine st V.assign ?_
            refine sn ?_
            repeat with_reducible refine inb_normal ?_
            refine thn_normal ?_
            refine rnd (q - 1) _ (by omega) (List.Sublist.refl _) ⟨k + 1, l, A', c', cs, by simp, rfl, by omega, hf.up, al_in hl (by omega)⟩
        ·
          have k4 := bp h4
          refine off rfl h4 ?_
          refine off rfl h4 ?_
          refine off rfl h4 ?_
          refine st (V.pF h4) ?_
          refine sn ?_
          refine cond (fun h => by cases h) (fun _ => ?_)
          refine AW.exit ?_
          repeat with_reducible refine thn_exit ?_
          refine inb_exit ?_
          refine AW.region ?_
          refine st V.move ?_
          refine st (V.add64 (by omega)) ?_
          refine st V.assign ?_
          refine sn ?_
          repeat with_reducible refine inb_normal ?_
          refine thn_normal ?_
          refine rnd (q - 1) _ (by omega) (List.Sublist.refl _) ⟨k + 1, l, A', c', cs, by simp, rfl, by omega, hf.up, al_in hl (by omega)⟩
      ·
        have k3 := bp h3
        refine AW.exit ?_
        repeat with_reducible refine thn_exit ?_
        refine inb_exit ?_
        refine AW.seq ?_
        refine AW.kp 0 fun Mv iv hkv => ?_
        refine AW.region ?_
        refine st V.move ?_
        refine st V.assign ?_
        refine sn ?_
        refine AW.ret ?_
        repeat with_reducible first | refine thn_ret ?_ | refine inb_ret ?_
        refine fin (Res.i1 rfl) ?_
        have e0 := al_end (most := most) k1 hl (by omega) (by omega)
        obtain ⟨hkn, hr⟩ := hkv.vals hf.up (by rw [e0, List.length_take]; omega)
        rw [← e0]
        refine ⟨_, (by repeat first | exact List.Sublist.refl _ | apply List.Sublist.cons), _, _, rfl, hr, rfl⟩
    ·
      have k2 := bp h2
      refine off rfl h2 ?_
      refine off rfl h2 ?_
      refine off rfl h2 ?_
      refine st (V.pF h2) ?_
      refine sn ?_
      refine cond (fun h => by cases h) (fun _ => ?_)
      refine AW.exit ?_
      repeat with_reducible refine thn_exit ?_
      refine inb_exit ?_
      refine AW.seq ?_
      refine AW.kp 0 fun Mv iv hkv => ?_
      refine AW.region ?_
      refine st V.move ?_
      refine st V.assign ?_
      refine sn ?_
      refine AW.ret ?_
      repeat with_reducible first | refine thn_ret ?_ | refine inb_ret ?_
      refine fin (Res.i1 rfl) ?_
      have e0 := al_end (most := most) k1 hl (by omega) (by omega)
      obtain ⟨hkn, hr⟩ := hkv.vals hf.up (by rw [e0, List.length_take]; omega)
      rw [← e0]
      refine ⟨_, (by repeat first | exact List.Sublist.refl _ | apply List.Sublist.cons), _, _, rfl, hr, rfl⟩
end Go.Proofs.YtieaiheejhmbfaaGreatDoor.ML
