/- Walks of functions of the program, in the abstract layer. No conditions. -/
import Derived.Test.YtieaiheejhmbfaaGreatDoorPk21
import Derived.Test.YtieaiheejhmbfaaGreatDoorPk18
namespace Go.Proofs.YtieaiheejhmbfaaGreatDoor.ML
open Go.RowKit
set_option linter.unusedVariables false
set_option linter.unusedSimpArgs false
set_option maxHeartbeats 1600000 in
set_option synthInstance.maxHeartbeats 400000 in
set_option synthInstance.maxSize 100000 in
set_option maxRecDepth 100000 in
theorem law_checks_c (M : Mem) (H : Heap) (hGM : GM M) (Ad : Option Addr) (cd : Nat) (d : List DT) (hd : RdS 2 (RdD M) Ad cd d) (t : Int) (A : Option Addr) (c : Nat) (v : VT) (hv : VV M A c v) :
    AC Tryz.prog 3 [.slice Ad d.length cd, .int .i64 t, .agg #[.int .i64 v.num, .int .i64 v.con, .slice A v.args.length c]] M H fun r _ H' => r = .bool true ∧ H' = H := by
  refine AC.of (n := 46) Tryz.func3 rfl rfl ?_
  dsimp only [List.replicate, List.cons_append, List.nil_append]
  refine AW.seq ?_
  refine AW.region ?_
  refine se (S.boxM ?_); intro b5 M5 i5 j5
  refine st V.assign ?_
  refine sn ?_
  refine AW.seq ?_
  refine AW.seq ?_
  refine AW.region ?_
  refine st V.move ?_
  first | refine st V.ldA ?_ | refine sq V.loA ?_
  refine se (S.call ?_)
  refine (few_c _ _ Ad cd d hd.upD A c v (VV.up hv)).use ?_
  rintro v1 N1 G1 iz1 ⟨rfl, hG⟩
  obtain rfl := hG.symm
  refine st V.not ?_
  refine sn ?_
  refine cond (fun h1 => ?_) (fun h1 => ?_)
  ·
    have k1 := bp h1
    refine AW.seq ?_
    refine AW.region ?_
    refine se (S.call ?_)
    refine (awake_c _ _ hGM.up).use ?_
    rintro v2 N2 G2 iz2 ⟨rfl, hG⟩
    obtain rfl := hG.symm
    refine st V.assign ?_
    refine sn ?_
    refine AW.ret ?_
    repeat with_reducible first | refine thn_ret ?_ | refine inb_ret ?_
    refine fin (Res.i1 rfl) ?_
    exact ⟨_, (by repeat first | exact List.Sublist.refl _ | apply List.Sublist.cons), rfl, rfl⟩
  ·
    have k1 := bp h1
    refine AW.skip ?_
    refine AW.seq ?_
    refine AW.region ?_
    refine st V.move ?_
    refine st V.move ?_
    first | refine st V.ldA ?_ | refine sq V.loA ?_
    refine se (S.call ?_)
    refine (cells_c _ _ Ad cd d hd.upD t A c v (VV.up hv)).use ?_
    rintro v3 N3 G3 iz3 ⟨rfl, hG⟩
    obtain rfl := hG.symm
    refine st V.move ?_
    refine st V.ext ?_
    refine st V.ext ?_
    refine st V.assign ?_
    refine st V.assign ?_
    refine sn ?_
    refine AW.seq ?_
    refine AW.region ?_
    refine st V.move ?_
    refine st V.move ?_
    first | refine st V.ldA ?_ | refine sq V.loA ?_
    refine se (S.call ?_)
    refine (r_cells_c _ _ Ad cd d hd.upD t A c v (VV.up hv)).use ?_
    rintro v4 N4 G4 iz4 ⟨rfl, hG⟩
    obtain rfl := hG.symm
    refine st V.move ?_
    refine st V.ext ?_
    refine st V.ext ?_
    refine st V.assign ?_
    refine st V.assign ?_
    refine sn ?_
    refine AW.seq ?_
    refine AW.region ?_
    refine se (S.call ?_)
    refine (awake_c _ _ hGM.up).use ?_
    rintro v5 N5 G5 iz5 ⟨rfl, hG⟩
    obtain rfl := hG.symm
    refine st V.move ?_
    refine on rfl rfl ?_
    refine st V.move ?_
    refine on rfl rfl ?_
    refine st V.move ?_
    refine on rfl rfl ?_
    refine st (V.eqlT rfl) ?_
    refine st (V.pT rfl) ?_
    refine st V.move ?_
    refine on rfl rfl ?_
    refine st V.move ?_
    refine on rfl rfl ?_
    refine st V.move ?_
    refine on rfl rfl ?_
    refine st (V.eqlT rfl) ?_
    refine st (V.pT rfl) ?_
    refine st V.move ?_
    refine on rfl rfl ?_
    refine st V.move ?_
    refine on rfl rfl ?_
    refine st V.move ?_
    refine on rfl rfl ?_
    first | refine st V.ldA ?_ | refine sq V.loA ?_
    refine on rfl rfl ?_
    refine se (S.call ?_)
    refine (vcheck_c _ _ Ad cd d hd.upD t A c v (VV.up hv)).use ?_
    rintro v6 N6 G6 iz6 ⟨rfl, hG⟩
    obtain rfl := hG.symm
    refine on rfl rfl ?_
    refine st V.move ?_
    refine on rfl rfl ?_
    refine st (V.eqlT rfl) ?_
    refine st (V.pT rfl) ?_
    refine st V.assign ?_
    refine sn ?_
    refine AW.ret ?_
    repeat with_reducible first | refine thn_ret ?_ | refine inb_ret ?_
    refine fin (Res.i1 rfl) ?_
    exact ⟨_, (by repeat first | exact List.Sublist.refl _ | apply List.Sublist.cons), rfl, rfl⟩
end Go.Proofs.YtieaiheejhmbfaaGreatDoor.ML
