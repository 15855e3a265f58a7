/- Walks of functions of the program, in the abstract layer. No conditions. -/
import Derived.Test.YtieaiheejhmbfaaGreatDoorPk36
import Derived.Test.YtieaiheejhmbfaaGreatDoorPk18
import Derived.Test.YtieaiheejhmbfaaGreatDoorPk20
namespace Go.Proofs.YtieaiheejhmbfaaGreatDoor.ML
open Go.RowKit
set_option linter.unusedVariables false
set_option linter.unusedSimpArgs false
set_option maxHeartbeats 1600000 in
set_option synthInstance.maxHeartbeats 400000 in
set_option synthInstance.maxSize 100000 in
set_option maxRecDepth 100000 in
theorem law_parses_c (M : Mem) (H : Heap) (hGM : GM M) (Ad : Option Addr) (cd : Nat) (d : List DT) (hd : RdS 2 (RdD M) Ad cd d) (t : Int) (s : ByteArray) (hsz : s.size ≤ 140737488355328) :
    AC Tryz.prog 6 [.slice Ad d.length cd, .int .i64 t, .string s] M H fun r _ H' => r = .bool true ∧ H' = H := by
  refine AC.of (n := 42) Tryz.func6 rfl rfl ?_
  dsimp only [List.replicate, List.cons_append, List.nil_append]
  refine AW.seq ?_
  refine AW.region ?_
  refine st V.assign ?_
  refine sn ?_
  refine AW.seq ?_
  refine AW.seq ?_
  refine AW.region ?_
  refine st V.move ?_
  refine se (S.call ?_)
  refine (small_c _ _ Ad cd d hd.upD).use ?_
  rintro v1 N1 G1 iz1 ⟨rfl, hG⟩
  obtain rfl := hG.symm
  refine st V.not ?_
  refine st V.move ?_
  refine onoff true rfl rfl (fun h1 => ?_) (fun h1 => ?_)
  ·
    have k1 := bp h1
    refine st V.move ?_
    refine on rfl h1 ?_
    refine st V.lenS ?_
    refine on rfl h1 ?_
    refine st V.gtr ?_
    refine st (V.pF h1) ?_
    refine sn ?_
    refine cond (fun h2 => ?_) (fun h2 => ?_)
    ·
      have k2 := bp h2
      refine AW.seq ?_
      refine AW.region ?_
      refine se (S.call ?_)
      refine (awake_c _ _ hGM.up).use ?_
      rintro v2 N2 G2 iz2 ⟨rfl, hG⟩
      obtain rfl := hG.symm
      refine st V.assign ?_
      refine sn ?_
      refine AW.ret ?_
      repeat with_reducible first | refine thn_ret ?_ | refine inb_ret ?_
      refine fin (Res.i1 rfl) ?_
      exact ⟨_, (by repeat first | exact List.Sublist.refl _ | apply List.Sublist.cons), rfl, rfl⟩
    ·
      have k2 := bp h2
      refine AW.skip ?_
      refine AW.seq ?_
      refine AW.region ?_
      refine st V.move ?_
      refine st V.move ?_
      refine st V.move ?_
      refine se (S.call ?_)
      refine (parse_c _ _ hGM.up Ad cd d hd.upD t s hsz).use ?_
      rintro v3 N3 G3 iz3 ⟨⟨A3, c3, rfl, hv3⟩, hG⟩
      obtain rfl := hG.symm
      refine st V.move ?_
      refine st V.ext ?_
      refine st V.ext ?_
      refine se (S.alloc ?_); intro b7
      refine se (S.storeA rfl ?_)
      refine st V.assign ?_
      refine sn ?_
      refine AW.seq ?_
      refine AW.fz 0 fun Mv iv jv => ?_
      refine AW.region ?_
      refine st V.move ?_
      refine st V.move ?_
      refine st V.move ?_
      refine se (S.call ?_)
      refine (r_parse_c _ _ Ad cd d hd.upD t s hsz).use ?_
      rintro v4 N4 G4 iz4 ⟨⟨A4, c4, rfl, hv4⟩, hG⟩
      obtain rfl := hG.symm
      refine st V.move ?_
      refine st V.ext ?_
      refine st V.ext ?_
      refine se (S.alloc ?_); intro b9
      refine se (S.storeA rfl ?_)
      refine st V.assign ?_
      refine sn ?_
      refine AW.seq ?_
      refine AW.fz 0 fun Mw iw jw => ?_
      refine AW.region ?_
      refine se (S.call ?_)
      refine (awake_c _ _ hGM.up).use ?_
      rintro v5 N5 G5 iz5 ⟨rfl, hG⟩
      obtain rfl := hG.symm
      refine st V.move ?_
      refine on rfl rfl ?_
      refine st V.move ?_
      refine on rfl rfl ?_
      refine st V.move ?_
      refine on rfl rfl ?_
      refine st (V.eqlT rfl) ?_
      refine st (V.pT rfl) ?_
      refine st V.move ?_
      refine on rfl rfl ?_
      first | refine st V.ldA ?_ | refine sq V.loA ?_
      refine on rfl rfl ?_
      first | refine st V.ldA ?_ | refine sq V.loA ?_
      refine on rfl rfl ?_
      refine se (S.call ?_)
      refine (r_same_c (SizeOf.sizeOf (parseF d t s).1 + 1) (parseF d t s).1 (parseF d t s).1 (by omega) _ _ A3 c3 A4 c4 (VV.up hv3) (VV.up hv4)).use ?_
      rintro v9 N9 G9 iz9 ⟨rfl, hG⟩
      obtain rfl := hG.symm
      rw [same_refl]
      refine st (V.pT rfl) ?_
      refine st V.assign ?_
      refine sn ?_
      refine AW.ret ?_
      repeat with_reducible first | refine thn_ret ?_ | refine inb_ret ?_
      refine fin (Res.i1 rfl) ?_
      exact ⟨_, (by repeat first | exact List.Sublist.refl _ | apply List.Sublist.cons), rfl, rfl⟩
  ·
    have k1 := bp h1
    refine off rfl h1 ?_
    refine off rfl h1 ?_
    refine st (V.pT h1) ?_
    refine sn ?_
    refine cond (fun _ => ?_) (fun h => by cases h)
    refine AW.seq ?_
    refine AW.region ?_
    refine se (S.call ?_)
    refine (awake_c _ _ hGM.up).use ?_
    rintro v2 N2 G2 iz2 ⟨rfl, hG⟩
    obtain rfl := hG.symm
    refine st V.assign ?_
    refine sn ?_
    refine AW.ret ?_
    repeat with_reducible first | refine thn_ret ?_ | refine inb_ret ?_
    refine fin (Res.i1 rfl) ?_
    exact ⟨_, (by repeat first | exact List.Sublist.refl _ | apply List.Sublist.cons), rfl, rfl⟩
end Go.Proofs.YtieaiheejhmbfaaGreatDoor.ML
