/- Walks of functions of the program, in the abstract layer. No conditions. -/
import Derived.Test.YtieaiheejhmbfaaGreatDoorPk23
import Derived.Test.YtieaiheejhmbfaaGreatDoorPk18
namespace Go.Proofs.YtieaiheejhmbfaaGreatDoor.ML
open Go.RowKit
set_option linter.unusedVariables false
set_option linter.unusedSimpArgs false
set_option maxHeartbeats 1600000 in
set_option synthInstance.maxHeartbeats 400000 in
set_option synthInstance.maxSize 100000 in
set_option maxRecDepth 100000 in
theorem law_counts_c (M : Mem) (H : Heap) (hGM : GM M) (Ad : Option Addr) (cd : Nat) (d : List DT) (hd : RdS 2 (RdD M) Ad cd d) (t : Int) (A : Option Addr) (c : Nat) (v : VT) (hv : VV M A c v) :
    AC Tryz.prog 4 [.slice Ad d.length cd, .int .i64 t, .agg #[.int .i64 v.num, .int .i64 v.con, .slice A v.args.length c]] M H fun r _ H' => r = .bool true ∧ H' = H := by
  refine AC.of (n := 54) Tryz.func4 rfl rfl ?_
  dsimp only [List.replicate, List.cons_append, List.nil_append]
  refine AW.seq ?_
  refine AW.region ?_
  refine se (S.boxM ?_); intro b5 M5 i5 j5
  refine st V.assign ?_
  refine sn ?_
  refine AW.seq ?_
  refine AW.seq ?_
  refine AW.region ?_
  refine st V.move ?_
  first | refine st V.ldA ?_ | refine sq V.loA ?_
  refine se (S.call ?_)
  refine (few_c _ _ Ad cd d hd.upD A c v (VV.up hv)).use ?_
  rintro v1 N1 G1 iz1 ⟨rfl, hG⟩
  obtain rfl := hG.symm
  refine st V.not ?_
  refine sn ?_
  refine cond (fun h1 => ?_) (fun h1 => ?_)
  ·
    have k1 := bp h1
    refine AW.seq ?_
    refine AW.region ?_
    refine se (S.call ?_)
    refine (awake_c _ _ hGM.up).use ?_
    rintro v2 N2 G2 iz2 ⟨rfl, hG⟩
    obtain rfl := hG.symm
    refine st V.assign ?_
    refine sn ?_
    refine AW.ret ?_
    repeat with_reducible first | refine thn_ret ?_ | refine inb_ret ?_
    refine fin (Res.i1 rfl) ?_
    exact ⟨_, (by repeat first | exact List.Sublist.refl _ | apply List.Sublist.cons), rfl, rfl⟩
  ·
    have k1 := bp h1
    refine AW.skip ?_
    refine AW.seq ?_
    refine AW.region ?_
    refine st V.move ?_
    refine st V.move ?_
    first | refine st V.ldA ?_ | refine sq V.loA ?_
    refine se (S.call ?_)
    refine (counts_c _ _ Ad cd d hd.upD t A c v (VV.up hv)).use ?_
    rintro v3 N3 G3 iz3 ⟨A1, c1, rfl, ec1, hG⟩
    obtain rfl := hG.symm
    have hb1 := ec1.bd
    refine st V.move ?_
    refine st V.ext ?_
    refine st V.ext ?_
    refine st V.assign ?_
    refine st V.assign ?_
    refine sn ?_
    refine AW.seq ?_
    refine AW.region ?_
    refine st V.move ?_
    refine st V.move ?_
    first | refine st V.ldA ?_ | refine sq V.loA ?_
    refine se (S.call ?_)
    refine (r_counts_c _ _ Ad cd d hd.upD t A c v (VV.up hv)).use ?_
    rintro v4 N4 G4 iz4 ⟨A2, c2, rfl, ec2, hG⟩
    obtain rfl := hG.symm
    refine st V.move ?_
    refine st V.ext ?_
    refine st V.ext ?_
    refine st V.assign ?_
    refine st V.assign ?_
    refine sn ?_
    refine AW.seq ?_
    refine AW.seq ?_
    refine AW.region ?_
    refine st V.move ?_
    refine st V.move ?_
    refine st (V.neqF rfl) ?_
    refine st V.move ?_
    refine on rfl rfl ?_
    refine st V.move ?_
    refine on rfl rfl ?_
    refine st V.len ?_
    refine on rfl rfl ?_
    refine st V.move ?_
    refine on rfl rfl ?_
    refine st V.len ?_
    refine on rfl rfl ?_
    refine st (V.neqF rfl) ?_
    refine st (V.pF rfl) ?_
    refine sn ?_
    refine cond (fun h => by cases h) (fun _ => ?_)
    refine AW.skip ?_
    refine AW.seq ?_
    refine AW.seq ?_
    refine AW.region ?_
    refine st V.assign ?_
    refine sn ?_
    refine AW.block ?_
    refine AW.loopL [11] (6 :: 41 :: 42 :: 43 :: 44 :: 45 :: 46 :: 47 :: 48 :: 49 :: 50 :: 51 :: 52 :: 53 :: 54 :: 55 :: []) (fun n vs M' H' => ∃ i : Nat, vs = [.int .i64 (i : Int)] ∧ H' = H ∧ i + n = (countsF d t v).1.length) ((countsF d t v).1.length) (⟨0, rfl, rfl, by omega⟩) ?_
    intro n Ml Hl iL u11 hI u6 u41 u42 u43 u44 u45 u46 u47 u48 u49 u50 u51 u52 u53 u54 u55
    obtain ⟨i, hv', hH, hi⟩ := hI
    obtain rfl := hH.symm
    cases hv'
    refine sa ?_
    refine AW.seq ?_
    refine AW.seq ?_
    refine AW.region ?_
    refine st V.move ?_
    refine st V.move ?_
    refine st V.len ?_
    refine st V.lss ?_
    refine sn ?_
    refine cond (fun h3 => ?_) (fun h3 => ?_)
    ·
      have k3 := bp h3
      refine AW.skip ?_
      refine AW.seq ?_
      refine AW.block ?_
      refine AW.seq ?_
      have z6 : i < (countsF d t v).1.length := by omega
      obtain ⟨b1, o1, hA1, f1⟩ := (ec1.upI (M' := Ml)).at i z6
      have f1 : Mk Ml b1 (o1 + i * 1) (.int .i64 (countsF d t v).1[i]) := f1
      obtain ⟨b2, o2, hA2, f2⟩ := (ec2.upI (M' := Ml)).at i z6
      have f2 : Mk Ml b2 (o2 + i * 1) (.int .i64 (countsF d t v).1[i]) := f2
      refine AW.regionD mx false [0, 1, 2, 3, 4, 5, 6, 7, 8] [[], [], [0, 1], [0, 1, 2], [], [], [4, 5], [4, 5, 6], [0, 1, 2, 3, 4, 5, 6, 7]] (by kernel_rfl) ?_
      refine D.p rfl rfl V.move ?_
      refine D.p rfl rfl V.move ?_
      refine D.p rfl rfl (V.ib i rfl z6 hA1) ?_
      first | refine D.p rfl rfl V.ld ?_ | refine D.q rfl rfl V.lo ?_
      refine D.p rfl rfl V.move ?_
      refine D.p rfl rfl V.move ?_
      refine D.p rfl rfl (V.ib i rfl z6 hA2) ?_
      first | refine D.p rfl rfl V.ld ?_ | refine D.q rfl rfl V.lo ?_
      refine D.p rfl rfl (V.neqF rfl) ?_
      refine D.nl ?_
      refine cond (fun h => by cases h) (fun _ => ?_)
      refine AW.skip ?_
      refine AW.region ?_
      refine st V.move ?_
      refine st (V.add64 (by omega)) ?_
      refine st V.assign ?_
      refine sn ?_
      repeat with_reducible refine inb_normal ?_
      refine thn_normal ?_
      exact rnd (n - 1) _ (by omega) (List.Sublist.refl _) ⟨i + 1, by simp, rfl, by omega⟩
    ·
      have k3 := bp h3
      refine AW.exit ?_
      repeat with_reducible refine thn_exit ?_
      refine inb_exit ?_
      refine AW.seq ?_
      refine AW.region ?_
      refine se (S.call ?_)
      refine (awake_c _ _ hGM.up).use ?_
      rintro v5 N5 G5 iz5 ⟨rfl, hG⟩
      obtain rfl := hG.symm
      refine st V.assign ?_
      refine sn ?_
      refine AW.ret ?_
      repeat with_reducible first | refine thn_ret ?_ | refine inb_ret ?_
      refine fin (Res.i1 rfl) ?_
      exact ⟨_, (by repeat first | exact List.Sublist.refl _ | apply List.Sublist.cons), rfl, rfl⟩
end Go.Proofs.YtieaiheejhmbfaaGreatDoor.ML
