/- Walks of functions of the program, in the abstract layer. No conditions. -/
import Derived.Test.YtieaiheejhmbfaaGreatDoorPk27
import Derived.Test.YtieaiheejhmbfaaGreatDoorPk28
import Derived.Test.YtieaiheejhmbfaaGreatDoorPk20
namespace Go.Proofs.YtieaiheejhmbfaaGreatDoor.ML
open Go.RowKit
set_option linter.unusedVariables false
set_option linter.unusedSimpArgs false
set_option maxHeartbeats 1600000 in
set_option synthInstance.maxHeartbeats 400000 in
set_option synthInstance.maxSize 100000 in
set_option maxRecDepth 100000 in
theorem law_texts_c (M : Mem) (H : Heap) (hGM : GM M) (Ad : Option Addr) (cd : Nat) (d : List DT) (hd : RdS 2 (RdD M) Ad cd d) (t : Int) (A : Option Addr) (c : Nat) (v : VT) (hv : VV M A c v) (hrg : RgV v) :
    AC Tryz.prog 5 [.slice Ad d.length cd, .int .i64 t, .agg #[.int .i64 v.num, .int .i64 v.con, .slice A v.args.length c]] M H fun r _ H' => r = .bool true ∧ H' = H := by
  refine AC.of (n := 69) Tryz.func5 rfl rfl ?_
  dsimp only [List.replicate, List.cons_append, List.nil_append]
  refine AW.seq ?_
  refine AW.region ?_
  refine se (S.boxM ?_); intro b5 M5 i5 j5
  refine st V.assign ?_
  refine sn ?_
  refine AW.seq ?_
  refine AW.seq ?_
  refine AW.region ?_
  refine st V.move ?_
  first | refine st V.ldA ?_ | refine sq V.loA ?_
  refine se (S.call ?_)
  refine (few_c _ _ Ad cd d hd.upD A c v (VV.up hv)).use ?_
  rintro v1 N1 G1 iz1 ⟨rfl, hG⟩
  obtain rfl := hG.symm
  refine st V.not ?_
  refine sn ?_
  refine cond (fun h1 => ?_) (fun h1 => ?_)
  ·
    have k1 := bp h1
    refine AW.seq ?_
    refine AW.region ?_
    refine se (S.call ?_)
    refine (awake_c _ _ hGM.up).use ?_
    rintro v2 N2 G2 iz2 ⟨rfl, hG⟩
    obtain rfl := hG.symm
    refine st V.assign ?_
    refine sn ?_
    refine AW.ret ?_
    repeat with_reducible first | refine thn_ret ?_ | refine inb_ret ?_
    refine fin (Res.i1 rfl) ?_
    exact ⟨_, (by repeat first | exact List.Sublist.refl _ | apply List.Sublist.cons), rfl, rfl⟩
  ·
    have k1 := bp h1
    refine AW.skip ?_
    refine AW.seq ?_
    have hb := few_size k1 hrg t
    refine AW.region ?_
    refine st V.move ?_
    refine st V.move ?_
    first | refine st V.ldA ?_ | refine sq V.loA ?_
    refine se (S.call ?_)
    refine (text_c _ _ hGM.up Ad cd d hd.upD t A c v (VV.up hv) hrg (fun _ => by omega)).use ?_
    rintro v3 N3 G3 iz3 ⟨rfl, hG⟩
    obtain rfl := hG.symm
    refine st V.move ?_
    refine st V.ext ?_
    refine st V.ext ?_
    refine st V.assign ?_
    refine st V.assign ?_
    refine sn ?_
    refine AW.seq ?_
    refine AW.region ?_
    refine st V.move ?_
    refine st V.move ?_
    first | refine st V.ldA ?_ | refine sq V.loA ?_
    refine se (S.call ?_)
    refine (r_text_c _ _ Ad cd d hd.upD t A c v (VV.up hv) hrg (fun _ => by omega)).use ?_
    rintro v4 N4 G4 iz4 ⟨rfl, hG⟩
    obtain rfl := hG.symm
    refine st V.move ?_
    refine st V.ext ?_
    refine st V.ext ?_
    refine st V.assign ?_
    refine st V.assign ?_
    refine sn ?_
    refine AW.seq ?_
    refine AW.seq ?_
    refine AW.region ?_
    refine st V.move ?_
    refine st V.move ?_
    refine st (V.nesF rfl) ?_
    refine st V.move ?_
    refine on rfl rfl ?_
    refine st V.move ?_
    refine on rfl rfl ?_
    refine st V.move ?_
    refine on rfl rfl ?_
    refine st (V.neqF rfl) ?_
    refine st (V.pF rfl) ?_
    refine st V.move ?_
    refine on rfl rfl ?_
    refine st V.move ?_
    refine on rfl rfl ?_
    refine st V.neq ?_
    refine st (V.pF rfl) ?_
    refine sn ?_
    refine cond (fun h2 => ?_) (fun h2 => ?_)
    ·
      have k2 := bp h2
      refine AW.seq ?_
      refine AW.region ?_
      refine se (S.call ?_)
      refine (awake_c _ _ hGM.up).use ?_
      rintro v6 N6 G6 iz6 ⟨rfl, hG⟩
      obtain rfl := hG.symm
      refine st V.move ?_
      refine on rfl rfl ?_
      refine st V.move ?_
      refine on rfl rfl ?_
      refine st V.move ?_
      refine on rfl rfl ?_
      refine st (V.eqsT rfl) ?_
      refine st (V.pT rfl) ?_
      refine st V.move ?_
      refine on rfl rfl ?_
      refine st V.move ?_
      refine on rfl rfl ?_
      refine st V.move ?_
      refine on rfl rfl ?_
      refine st (V.eqlT rfl) ?_
      refine st (V.pT rfl) ?_
      refine st V.assign ?_
      refine sn ?_
      refine AW.ret ?_
      repeat with_reducible first | refine thn_ret ?_ | refine inb_ret ?_
      refine fin (Res.i1 rfl) ?_
      exact ⟨_, (by repeat first | exact List.Sublist.refl _ | apply List.Sublist.cons), rfl, rfl⟩
    ·
      have k2 := bp h2
      refine AW.skip ?_
      refine AW.seq ?_
      obtain ⟨q1, q2, q3⟩ := text_ok k2
      have hpt := parse_text q1 hrg q2
      rw [q3]
      refine AW.region ?_
      refine st V.move ?_
      refine st V.move ?_
      refine st V.move ?_
      refine se (S.call ?_)
      refine (parse_c _ _ hGM.up Ad cd d hd.upD t (txV d t v) (by omega)).use ?_
      rintro v7 N7 G7 iz7 ⟨hpz, hG⟩
      obtain rfl := hG.symm
      rw [hpt] at hpz
      obtain ⟨A7, c7, rfl, hv7⟩ := hpz
      refine st V.move ?_
      refine st V.ext ?_
      refine st V.ext ?_
      refine se (S.alloc ?_); intro b11
      refine se (S.storeA rfl ?_)
      refine st V.assign ?_
      refine sn ?_
      refine AW.seq ?_
      refine AW.fz 0 fun Mv iv jv => ?_
      refine AW.region ?_
      refine se (S.call ?_)
      refine (awake_c _ _ hGM.up).use ?_
      rintro v8 N8 G8 iz8 ⟨rfl, hG⟩
      obtain rfl := hG.symm
      refine st V.move ?_
      refine on rfl rfl ?_
      refine st V.move ?_
      refine on rfl rfl ?_
      refine st (V.eqlT rfl) ?_
      refine st (V.pT rfl) ?_
      refine st V.move ?_
      refine on rfl rfl ?_
      first | refine st V.ldA ?_ | refine sq V.loA ?_
      refine on rfl rfl ?_
      first | refine st V.ldA ?_ | refine sq V.loA ?_
      refine on rfl rfl ?_
      refine se (S.call ?_)
      refine (r_same_c (SizeOf.sizeOf v + 1) v v (by omega) _ _ A7 c7 A c (VV.up hv7) (VV.up hv)).use ?_
      rintro v9 N9 G9 iz9 ⟨rfl, hG⟩
      obtain rfl := hG.symm
      rw [same_refl]
      refine st (V.pT rfl) ?_
      refine st V.assign ?_
      refine sn ?_
      refine AW.ret ?_
      repeat with_reducible first | refine thn_ret ?_ | refine inb_ret ?_
      refine fin (Res.i1 rfl) ?_
      exact ⟨_, (by repeat first | exact List.Sublist.refl _ | apply List.Sublist.cons), rfl, rfl⟩
end Go.Proofs.YtieaiheejhmbfaaGreatDoor.ML
