/- Walks of functions of the program, in the abstract layer. No conditions. -/
import Derived.Test.YtieaiheejhmbfaaGreatDoorPk39
import Derived.Test.YtieaiheejhmbfaaGreatDoorPk20
namespace Go.Proofs.YtieaiheejhmbfaaGreatDoor.ML
open Go.RowKit
set_option linter.unusedVariables false
set_option linter.unusedSimpArgs false
set_option maxHeartbeats 1600000 in
set_option synthInstance.maxHeartbeats 400000 in
set_option synthInstance.maxSize 100000 in
set_option maxRecDepth 100000 in
theorem law_all_c (M : Mem) (H : Heap) (hGM : GM M) (Ad : Option Addr) (cd : Nat) (d : List DT) (hd : RdS 2 (RdD M) Ad cd d) (t most : Int) :
    AC Tryz.prog 7 [.slice Ad d.length cd, .int .i64 t, .int .i64 most] M H fun r _ H' => r = .bool true ∧ H' = H := by
  refine AC.ofM (n := 53) Tryz.func7 rfl rfl ?_
  dsimp only [List.replicate, List.cons_append, List.nil_append]
  refine AW.seq ?_
  refine AW.region ?_
  refine se (S.alloc ?_); intro b6
  refine sn ?_
  refine AW.seq ?_
  refine AW.seq ?_
  refine AW.region ?_
  refine st V.move ?_
  refine se (S.call ?_)
  refine (small_c _ _ Ad cd d hd.upD).use ?_
  rintro v1 N1 G1 iz1 ⟨rfl, hG⟩
  obtain rfl := hG.symm
  refine st V.not ?_
  refine st V.move ?_
  refine onoff true rfl rfl (fun h1 => ?_) (fun h1 => ?_)
  ·
    have k1 := bp h1
    refine st V.move ?_
    refine on rfl h1 ?_
    refine st V.gtr ?_
    refine st (V.pF h1) ?_
    refine sn ?_
    refine cond (fun h2 => ?_) (fun h2 => ?_)
    ·
      have k2 := bp h2
      refine AW.seq ?_
      refine AW.region ?_
      refine se (S.call ?_)
      refine (awake_c _ _ hGM.up).use ?_
      rintro v2 N2 G2 iz2 ⟨rfl, hG⟩
      obtain rfl := hG.symm
      refine se (S.store ?_)
      refine sn ?_
      refine AW.ret ?_
      repeat with_reducible first | refine thn_ret ?_ | refine inb_ret ?_
      refine finM (fun _ => Res.icS rfl) ?_
      refine ⟨_, (by repeat first | exact List.Sublist.refl _ | apply List.Sublist.cons), fun _ => ⟨rfl, rfl⟩⟩
    ·
      have k2 := bp h2
      refine AW.skip ?_
      refine AW.seq ?_
      refine AW.region ?_
      refine st V.move ?_
      refine st V.move ?_
      refine st V.move ?_
      refine se (S.call ?_)
      refine (r_all_c 80 (by omega) _ _ Ad cd d hd.upD t most (by omega)).use ?_
      rintro v3 N3 G3 iz3 ⟨A3, c3, rfl, r3, hG⟩
      obtain rfl := hG.symm
      refine se (S.alloc ?_); intro b7
      refine se (S.store ?_)
      refine sn ?_
      refine AW.seq ?_
      refine AW.fz 0 fun Mw iw jw => ?_
      refine AW.region ?_
      refine st V.move ?_
      refine st V.move ?_
      refine st V.move ?_
      refine se (S.call ?_)
      refine (all_c _ _ Ad cd d.length t most).use ?_
      rintro v4 N4 G4 iz4 ⟨q1, q2, q3, rfl, m1, m2, m3, hG⟩
      obtain rfl := hG.symm
      refine st V.assign ?_
      refine sn ?_
      refine AW.seq ?_
      refine AW.seq ?_
      refine AW.region ?_
      refine st V.move ?_
      refine st (V.eqf0) ?_
      refine sn ?_
      refine cond (fun h => by cases h) (fun _ => ?_)
      refine AW.skip ?_
      refine AW.seq ?_
      refine AW.seq ?_
      refine AW.region ?_
      refine st V.move ?_
      refine sn ?_
      refine AW.block ?_
      refine AW.loopL [29] (9 :: 30 :: 31 :: 50 :: 51 :: 52 :: 53 :: 54 :: []) (fun q vs M' H' => ∃ k : Nat, vs = [.int .i64 (k : Int)] ∧ H' = .blk b6 (.cells #[.bool false] 4 (0, 0)) :: H ∧ k + q = 2) (2) (⟨0, rfl, rfl, by omega⟩) ?_
      intro q Ml Hl iL u29 hI u9 u30 u31 u50 u51 u52 u53 u54
      obtain ⟨k, hv, hH, hk⟩ := hI
      subst hH
      cases hv
      refine sa ?_
      refine AW.seq ?_
      refine AW.region ?_
      refine st V.lss ?_
      refine sn ?_
      refine AW.seq ?_
      refine cond (fun h4 => ?_) (fun h4 => ?_)
      ·
        have k4 := bp h4
        refine AW.skip ?_
        refine AW.seq ?_
        refine AW.block ?_
        refine AW.seq ?_
        refine AW.region ?_
        refine se (S.alloc ?_); intro b9
        refine se (S.store ?_)
        refine sn ?_
        refine AW.seq ?_
        refine AW.seq ?_
        refine AW.region ?_
        refine st V.move ?_
        refine sn ?_
        refine AW.block ?_
        refine AW.rangeF (f := 56) (fst := #[]) (cap := #[.pointer (some ⟨q1, 0, none⟩), .pointer (some ⟨q2, 0, none⟩), .pointer (some ⟨q3, 0, none⟩)]) Ev.out ?_
        intro l r Mr iR hrt hrs hrn hrp hra hrb
        have hrr : ({ r with state := .ready, pending := none } : Loop) = r := by cases r; simp only at hrs hrn; subst hrs; subst hrn; rfl
        have LW : LeT Mw Mr := inferInstance
        have L3 : LeT N3 Mr := inferInstance
        have cb : CbV Tryz.prog Mr (.func (.yield l) #[] #[]) (fun (b : Bool) (s : Nat × Nat) => .blk l (.loop (if b then { r with state := .ready, pending := none } else { r with state := .done, pending := some (if s.2 = 1 then .ret else .exit 2) })) :: .blk b9 (.cells #[.int .i64 s.1] 3 (0, 0)) :: .blk b6 (.cells #[.bool false] 4 (0, 0)) :: H) (fW ((allV d t most).take 80)) := by
          intro M2 q s2 v Av cv hvb hvv
          obtain ⟨n2, e2⟩ := s2
          have jw2 : Mb M2 b7 [.slice A3 ((allV d t most).take 80).length c3] := Mb.up (h := LeT.tr LW q) jw
          have r32 : RdS 3 (RdV M2) A3 c3 ((allV d t most).take 80) := RdS.upV (hm := LeT.tr L3 q) r3
          refine AV.heqI (H' := .blk l (.loop r) :: .blk b9 (.cells #[.int .i64 n2] 3 (0, 0)) :: .blk b6 (.cells #[.bool false] 4 (0, 0)) :: H) (by simp [hrr]) ?_
          refine AV.yield hrt hrs (by rw [hrp]; rfl) ?_
          rw [hra, hrb, hrp]
          refine sy ?_
          refine AW.region ?_
          refine se (S.alloc ?_); intro b10
          refine se (S.storeA rfl ?_)
          refine sn ?_
          refine apost_1 ?_
          refine AW.fz 1 fun Mv iv jv => ?_
          refine AW.block ?_
          refine AW.seq ?_
          refine AW.seq ?_
          refine AW.regionP mx [0, 1, 2, 3, 4, 5, 6, 7, 8, 9, 10, 11, 12] [[], [], [1], [0, 1, 2], [0, 1, 2, 3], [0, 1, 2, 3, 4], [0, 1, 2, 3, 4], [0, 1, 2, 3, 4], [0, 1, 2, 3, 4, 6, 7], [0, 1, 2, 3, 4, 6, 7, 8], [0, 1, 2, 3, 4, 5, 6, 7, 8, 9], [0, 1, 2, 3, 4, 5, 6, 7, 8, 9, 10], [0, 1, 2, 3, 4, 5, 6, 7, 8, 9, 10, 11]] (by kernel_rfl) ?_
          refine DP.lo rfl ?_
          refine DP.p rfl rfl V.ld ?_
          refine DP.p rfl rfl V.len ?_
          refine DP.p rfl rfl V.geq ?_
          refine DP.p rfl rfl V.move ?_
          refine DP.onoff false true rfl 37 (fun h5 => ?_) (fun h5 => ?_)
          ·
            have k5 := bp h5
            have hW8 : ((allV d t most).take 80).length ≤ 80 := by rw [List.length_take]; omega
            have zn : n2 < ((allV d t most).take 80).length := by omega
            obtain ⟨bq, oq, hAq, eq⟩ := (RdS.upV (M' := Mv) r32).at n2 zn
            obtain ⟨Ax, cx, x0, x1, x2, xs⟩ := eq.get
            refine DP.pOn rfl rfl h5 rfl V.ldA ?_
            refine DP.pOn rfl rfl h5 rfl V.ld ?_
            refine DP.loOn rfl rfl h5 ?_
            refine DP.pOn rfl rfl h5 rfl (V.ib n2 rfl zn hAq) ?_
            refine DP.pOn rfl rfl h5 rfl V.ldA ?_
            refine DP.eOn rfl rfl h5 rfl (S.call ?_)
            refine (r_same_c (SizeOf.sizeOf v + 1) v ((allV d t most).take 80)[n2] (by omega) _ _ Av cv Ax cx (VV.up hvv) (VV.up xs)).use ?_
            rintro v12 N12 G12 iz12 ⟨rfl, hG⟩
            obtain rfl := hG.symm
            refine ⟨(by repeat first | exact pk0 | refine pk1 rfl ?_ | refine pk2 ?_ | refine pk3 ?_), ?_⟩
            refine DP.pOn rfl rfl h5 rfl V.not ?_
            refine DP.p rfl rfl (V.pF h5) ?_
            refine DP.nl ?_
            unfold outQ
            refine cond (fun h6 => ?_) (fun h6 => ?_)
            ·
              have k6 := bp h6
              refine AW.seq ?_
              refine AW.region ?_
              refine se (S.store ?_)
              refine sn ?_
              refine AW.ret ?_
              repeat with_reducible first | refine thn_ret ?_ | refine inb_ret ?_
              refine rpost_r ?_
              have hs9 : fW ((allV d t most).take 80) (n2, e2) v = ((n2, 1), false) := fW_no zn (by simpa using h6)
              refine ⟨by rw [hs9], ?_⟩
              simp [hs9, hra, hrb, hrp]
            ·
              have k6 := bp h6
              refine AW.skip ?_
              refine AW.seq ?_
              refine AW.region ?_
              first | refine st V.ld ?_ | refine sq V.lo ?_
              refine st (V.add64 (by omega)) ?_
              refine se (S.store ?_)
              refine sn ?_
              refine AW.seq ?_
              refine AW.region ?_
              first | refine st V.ld ?_ | refine sq V.lo ?_
              refine st V.eql ?_
              refine sn ?_
              refine cond (fun h7 => ?_) (fun h7 => ?_)
              ·
                have k7 := bp h7
                refine AW.exit ?_
                repeat with_reducible refine thn_exit ?_
                refine inb_other (by decide) ?_
                repeat with_reducible refine thn_exit ?_
                refine rpost_x ?_
                have hs9 : fW ((allV d t most).take 80) (n2, e2) v = ((n2 + 1, 2), false) := fW_end zn (by simpa using h6) (by omega)
                refine ⟨by rw [hs9], ?_⟩
                simp [hs9, hra, hrb, hrp]
              ·
                have k7 := bp h7
                refine AW.skip ?_
                repeat with_reducible refine inb_normal ?_
                refine rpost_n ?_
                have hs9 : fW ((allV d t most).take 80) (n2, e2) v = ((n2 + 1, 0), true) := fW_on zn (by simpa using h6) (by omega)
                refine ⟨by rw [hs9], ?_⟩
                simp [hs9, hra, hrb, hrp]
          ·
            have k5 := bp h5
            refine DP.off rfl rfl (by rw [h5]; decide) (by repeat first | exact pk0 | refine pk1 rfl ?_ | refine pk2 ?_ | refine pk3 ?_) ?_
            refine DP.off rfl rfl (by rw [h5]; decide) (by repeat first | exact pk0 | refine pk1 rfl ?_ | refine pk2 ?_ | refine pk3 ?_) ?_
            refine DP.off rfl rfl (by rw [h5]; decide) (by repeat first | exact pk0 | refine pk1 rfl ?_ | refine pk2 ?_ | refine pk3 ?_) ?_
            refine DP.off rfl rfl (by rw [h5]; decide) (by repeat first | exact pk0 | refine pk1 rfl ?_ | refine pk2 ?_ | refine pk3 ?_) ?_
            refine DP.off rfl rfl (by rw [h5]; decide) (by repeat first | exact pk0 | refine pk1 rfl ?_ | refine pk2 ?_ | refine pk3 ?_) ?_
            refine DP.off rfl rfl (by rw [h5]; decide) (by repeat first | exact pk0 | refine pk1 rfl ?_ | refine pk2 ?_ | refine pk3 ?_) ?_
            refine DP.off rfl rfl (by rw [h5]; decide) (by repeat first | exact pk0 | refine pk1 rfl ?_ | refine pk2 ?_ | refine pk3 ?_) ?_
            refine DP.p rfl rfl (V.pT h5) ?_
            refine DP.nl ?_
            unfold outQ
            refine cond (fun _ => ?_) (fun h => by cases h)
            refine AW.seq ?_
            refine AW.region ?_
            refine se (S.store ?_)
            refine sn ?_
            refine AW.ret ?_
            repeat with_reducible first | refine thn_ret ?_ | refine inb_ret ?_
            refine rpost_r ?_
            have hs9 : fW ((allV d t most).take 80) (n2, e2) v = ((n2, 1), false) := fW_off (by omega)
            refine ⟨by rw [hs9], ?_⟩
            simp [hs9, hra, hrb, hrp]
        refine AC.heqI (H' := (fun (b : Bool) (s : Nat × Nat) => .blk l (.loop (if b then { r with state := .ready, pending := none } else { r with state := .done, pending := some (if s.2 = 1 then .ret else .exit 2) })) :: .blk b9 (.cells #[.int .i64 s.1] 3 (0, 0)) :: .blk b6 (.cells #[.bool false] 4 (0, 0)) :: H) true (0, 0)) (by simp [hrr]) ?_
        refine (all1_c (fun (b : Bool) (s : Nat × Nat) => .blk l (.loop (if b then { r with state := .ready, pending := none } else { r with state := .done, pending := some (if s.2 = 1 then .ret else .exit 2) })) :: .blk b9 (.cells #[.int .i64 s.1] 3 (0, 0)) :: .blk b6 (.cells #[.bool false] 4 (0, 0)) :: H) (fW ((allV d t most).take 80)) (.func (.yield l) #[] #[]) d t most (by omega) (0, 0) Mr Ad cd q1 q2 q3 hd.upD (Mb.up (h := (inferInstance : LeT N4 Mr)) m1) (Mb.up (h := (inferInstance : LeT N4 Mr)) m2) (Mb.up (h := (inferInstance : LeT N4 Mr)) m3) cb).use ?_
        rintro vz Nz Gz izz ⟨rfl, hG⟩
        subst hG
        refine bcase (sf (fW ((allV d t most).take 80)) (0, 0) (allV d t most)).2 (fun hp => ?_) (fun hp => ?_)
        ·
          obtain ⟨hs, hlen⟩ := all_sf_t hp
          have hlen : (((allV d t most).length : Nat) : Int) = ((((allV d t most).take 80).length : Nat) : Int) := by rw [← hlen]
          refine RQ.heq (H' := .blk l (.loop { r with state := .ready, pending := none }) :: .blk b9 (.cells #[.int .i64 ((allV d t most).length : Nat)] 3 (0, 0)) :: .blk b6 (.cells #[.bool false] 4 (0, 0)) :: H) (by simp [hs]) ?_
          refine rangeQ_n ?_
          refine AW.seq ?_
          refine AW.region ?_
          first | refine st V.ld ?_ | refine sq V.lo ?_
          first | refine st V.ld ?_ | refine sq V.lo ?_
          refine st V.len ?_
          refine st (V.neqF hlen) ?_
          refine sn ?_
          refine cond (fun h => by cases h) (fun _ => ?_)
          refine AW.skip ?_
          refine AW.region ?_
          refine st (V.add64 (by omega)) ?_
          refine st V.move ?_
          refine sn ?_
          repeat with_reducible refine inb_normal ?_
          refine thn_normal ?_
          refine rnd (q - 1) _ (by omega) (by repeat first | exact List.Sublist.refl _ | apply List.Sublist.cons) ⟨k + 1, by simp, rfl, by omega⟩
        ·
          obtain ⟨hs, hlen⟩ := all_sf_f hp
          have hlen : (80 : Int) = ((((allV d t most).take 80).length : Nat) : Int) := by omega
          refine RQ.heq (H' := .blk l (.loop { r with state := .done, pending := some (.exit 2) }) :: .blk b9 (.cells #[.int .i64 80] 3 (0, 0)) :: .blk b6 (.cells #[.bool false] 4 (0, 0)) :: H) (by simp [hs]) ?_
          refine rangeQ_c ?_
          refine AW.exit ?_
          repeat with_reducible refine thn_exit ?_
          refine inb_exit ?_
          refine AW.seq ?_
          refine AW.region ?_
          first | refine st V.ld ?_ | refine sq V.lo ?_
          first | refine st V.ld ?_ | refine sq V.lo ?_
          refine st V.len ?_
          refine st (V.neqF hlen) ?_
          refine sn ?_
          refine cond (fun h => by cases h) (fun _ => ?_)
          refine AW.skip ?_
          refine AW.region ?_
          refine st (V.add64 (by omega)) ?_
          refine st V.move ?_
          refine sn ?_
          repeat with_reducible refine inb_normal ?_
          refine thn_normal ?_
          refine rnd (q - 1) _ (by omega) (by repeat first | exact List.Sublist.refl _ | apply List.Sublist.cons) ⟨k + 1, by simp, rfl, by omega⟩
      ·
        have k4 := bp h4
        refine AW.exit ?_
        repeat with_reducible refine thn_exit ?_
        refine inb_exit ?_
        refine AW.seq ?_
        refine AW.region ?_
        refine se (S.call ?_)
        refine (awake_c _ _ hGM.up).use ?_
        rintro v19 N19 G19 iz19 ⟨rfl, hG⟩
        obtain rfl := hG.symm
        refine se (S.store ?_)
        refine sn ?_
        refine AW.ret ?_
        repeat with_reducible first | refine thn_ret ?_ | refine inb_ret ?_
        refine finM (fun _ => Res.icS rfl) ?_
        refine ⟨_, (by repeat first | exact List.Sublist.refl _ | apply List.Sublist.cons), fun _ => ⟨rfl, rfl⟩⟩
  ·
    have k1 := bp h1
    refine off rfl h1 ?_
    refine st (V.pT h1) ?_
    refine sn ?_
    refine cond (fun _ => ?_) (fun h => by cases h)
    refine AW.seq ?_
    refine AW.region ?_
    refine se (S.call ?_)
    refine (awake_c _ _ hGM.up).use ?_
    rintro v2 N2 G2 iz2 ⟨rfl, hG⟩
    obtain rfl := hG.symm
    refine se (S.store ?_)
    refine sn ?_
    refine AW.ret ?_
    repeat with_reducible first | refine thn_ret ?_ | refine inb_ret ?_
    refine finM (fun _ => Res.icS rfl) ?_
    refine ⟨_, (by repeat first | exact List.Sublist.refl _ | apply List.Sublist.cons), fun _ => ⟨rfl, rfl⟩⟩
end Go.Proofs.YtieaiheejhmbfaaGreatDoor.ML
