/- Walks of functions of the program, in the abstract layer. No conditions. -/
import Derived.Test.YtieaiheejhmbfaaGreatDoorPk43
import Derived.Test.YtieaiheejhmbfaaGreatDoorPk42
import Derived.Test.YtieaiheejhmbfaaGreatDoorPk20
import Derived.Test.YtieaiheejhmbfaaGreatDoorPk22
namespace Go.Proofs.YtieaiheejhmbfaaGreatDoor.ML
open Go.RowKit
set_option linter.unusedVariables false
set_option linter.unusedSimpArgs false
set_option maxHeartbeats 1600000 in
set_option synthInstance.maxHeartbeats 400000 in
set_option synthInstance.maxSize 100000 in
set_option maxRecDepth 100000 in
theorem law_grows_c (M : Mem) (H : Heap) (hGM : GM M) (Ad : Option Addr) (cd : Nat) (d : List DT) (hd : RdS 2 (RdD M) Ad cd d) (t m : Int) (hm8 : 0 ≤ m ∧ m ≤ 255) :
    AC Tryz.prog 10 [.slice Ad d.length cd, .int .i64 t, .int .u8 m] M H fun r _ H' => r = .bool true ∧ H' = H := by
  have hmo : 0 ≤ m.tmod 5 ∧ m.tmod 5 ≤ 4 := by rw [Int.tmod_eq_emod_of_nonneg hm8.1]; omega
  refine AC.ofMc (n := 74) Tryz.func10 rfl rfl ?_
  dsimp only [List.replicate, List.cons_append, List.nil_append]
  refine AW.seq ?_
  refine AW.region ?_
  refine se (S.boxM ?_); intro b3 M3 i3 j3
  refine se (S.boxM ?_); intro b4 M4 i4 j4
  refine se (S.boxM ?_); intro b5 M5 i5 j5
  refine se (S.alloc ?_); intro b6
  refine sn ?_
  refine AW.seq ?_
  refine AW.seq ?_
  refine AW.region ?_
  first | refine st V.ld ?_ | refine sq V.lo ?_
  refine se (S.call ?_)
  refine (small_c _ _ Ad cd d hd.upD).use ?_
  rintro v1 N1 G1 iz1 ⟨rfl, hG⟩
  obtain rfl := hG.symm
  refine st V.not ?_
  refine st V.move ?_
  refine onoff true rfl rfl (fun h1 => ?_) (fun h1 => ?_)
  ·
    have k1 := bp h1
    first | refine st V.ld ?_ | refine sq V.lo ?_
    refine on rfl h1 ?_
    refine se (S.call ?_)
    refine (r_check_c _ _ Ad cd d hd.upD).use ?_
    rintro v6 N6 G6 iz6 ⟨rfl, hG⟩
    obtain rfl := hG.symm
    refine on rfl h1 ?_
    refine st V.neq ?_
    refine st (V.pF h1) ?_
    refine sn ?_
    refine cond (fun h2 => ?_) (fun h2 => ?_)
    ·
      have k2 := bp h2
      refine AW.seq ?_
      refine AW.region ?_
      refine se (S.call ?_)
      refine (awake_c _ _ hGM.up).use ?_
      rintro v2 N2 G2 iz2 ⟨rfl, hG⟩
      obtain rfl := hG.symm
      refine se (S.store ?_)
      refine sn ?_
      refine AW.ret ?_
      repeat with_reducible first | refine thn_ret ?_ | refine inb_ret ?_
      refine finMc (fun _ => Res.icC rfl) ?_
      refine ⟨_, (by repeat first | exact List.Sublist.refl _ | apply List.Sublist.cons), fun _ _ => ⟨rfl, rfl⟩⟩
    ·
      have k2 := bp h2
      refine AW.skip ?_
      refine AW.seq ?_
      have hck : checkF d = 0 := by omega
      refine AW.region ?_
      refine se (S.alloc ?_); intro b7
      refine sn ?_
      refine AW.seq ?_
      refine AW.region ?_
      refine se (S.alloc ?_); intro b8
      refine se (S.store ?_)
      refine sn ?_
      refine AW.seq ?_
      refine AW.region ?_
      first | refine st V.ld ?_ | refine sq V.lo ?_
      first | refine st V.ld ?_ | refine sq V.lo ?_
      first | refine st V.ld ?_ | refine sq V.lo ?_
      refine st (V.rem (by omega)) ?_
      refine st (V.conv64 (by omega)) ?_
      refine se (S.call ?_)
      refine (all_c _ _ Ad cd d.length t (m.tmod 5)).use ?_
      rintro v5 N5 G5 iz5 ⟨q1, q2, q3, rfl, m1, m2, m3, hG⟩
      obtain rfl := hG.symm
      refine st V.assign ?_
      refine sn ?_
      refine AW.seq ?_
      refine AW.seq ?_
      refine AW.region ?_
      refine st V.move ?_
      refine st (V.eqf0) ?_
      refine sn ?_
      refine cond (fun h => by cases h) (fun _ => ?_)
      refine AW.skip ?_
      refine AW.seq ?_
      refine AW.seq ?_
      refine AW.row0 26 3 ?_
      refine AW.region ?_
      refine st V.move ?_
      refine sn ?_
      refine AW.block ?_
      refine AW.rangeF (f := 56) (fst := #[]) (cap := #[.pointer (some ⟨q1, 0, none⟩), .pointer (some ⟨q2, 0, none⟩), .pointer (some ⟨q3, 0, none⟩)]) Ev.out ?_
      intro l r Mr iR hrt hrs hrn hrp hra hrb
      have hrr : ({ r with state := .ready, pending := none } : Loop) = r := by cases r; simp only at hrs hrn; subst hrs; subst hrn; rfl
      have LQ : LeT M Mr := inferInstance
      have L3 : LeT M3 Mr := inferInstance
      have L4 : LeT M4 Mr := inferInstance
      have L5 : LeT M5 Mr := inferInstance
      have cb : CbR Tryz.prog Mr (.func (.yield l) #[] #[]) (fun (b : Bool) (s : GS) => if b = true then .blk l (.loop { r with state := .ready, pending := none }) :: .row s.A s.L.length s.c 26 3 s.cs :: .blk b8 (.cells #[.int .i64 s.la] 3 (0, 0)) :: .blk b7 (.cells #[.slice s.A s.L.length s.c] 24 (0, 0)) :: .blk b6 (.cells #[.bool false] 4 (0, 0)) :: H else .blk l (.loop { r with state := .done, pending := some (if s.e = 1 then .ret else .exit 0) }) :: .blk b6 (.cells #[.bool false] 4 (0, 0)) :: H) GdG (fG d t (m.tmod 5)) := by
        intro M2 q s2 v Av cv hvb hvv hg2
        obtain ⟨L, la, A, c, cs, e⟩ := s2
        obtain ⟨hf, hL40⟩ := hg2
        dsimp only at hf hL40
        have hcl := hf.len
        have LD : LeT M M2 := LeT.tr LQ q
        have j3' : Mb M2 b3 [.slice Ad d.length cd] := Mb.up (h := LeT.tr L3 q) j3
        have j4' : Mb M2 b4 [.int .i64 t] := Mb.up (h := LeT.tr L4 q) j4
        have j5' : Mb M2 b5 [.int .u8 m] := Mb.up (h := LeT.tr L5 q) j5
        refine AV.heqI (H' := .blk l (.loop r) :: .row A L.length c 26 3 cs :: .blk b8 (.cells #[.int .i64 la] 3 (0, 0)) :: .blk b7 (.cells #[.slice A L.length c] 24 (0, 0)) :: .blk b6 (.cells #[.bool false] 4 (0, 0)) :: H) (by simp [hrr]) ?_
        refine AV.yield hrt hrs (by rw [hrp]; rfl) ?_
        rw [hra, hrb, hrp]
        refine sy ?_
        refine AW.region ?_
        refine se (S.alloc ?_); intro b10
        refine se (S.storeA rfl ?_)
        refine sn ?_
        refine apost_1 ?_
        refine AW.fz 1 fun Mv iv jv => ?_
        refine AW.block ?_
        refine AW.seq ?_
        refine AW.region ?_
        first | refine st V.ld ?_ | refine sq V.lo ?_
        first | refine st V.ld ?_ | refine sq V.lo ?_
        first | refine st V.ldA ?_ | refine sq V.loA ?_
        refine se (S.call ?_)
        refine (cells_c _ _ Ad cd d hd.upD t Av cv v (VV.up hvv)).use ?_
        rintro v10 N10 G10 iz10 ⟨rfl, hG⟩
        obtain rfl := hG.symm
        refine st V.move ?_
        refine st V.ext ?_
        refine st V.ext ?_
        refine st V.assign ?_
        refine st V.assign ?_
        refine sn ?_
        refine AW.seq ?_
        refine AW.seq ?_
        refine AW.region ?_
        refine st V.move ?_
        refine st V.neq ?_
        refine st V.move ?_
        refine onoff true rfl rfl (fun h4 => ?_) (fun h4 => ?_)
        ·
          have k4 := bp h4
          refine st V.move ?_
          refine on rfl h4 ?_
          first | refine st V.ld ?_ | refine sq V.lo ?_
          refine on rfl h4 ?_
          refine st V.lss ?_
          refine st (V.pF h4) ?_
          refine st V.move ?_
          refine onoff true rfl rfl (fun h5 => ?_) (fun h5 => ?_)
          ·
            have k5 := bp h5
            refine st V.move ?_
            refine on rfl h5 ?_
            first | refine st V.ld ?_ | refine sq V.lo ?_
            refine on rfl h5 ?_
            refine st (V.rem (by omega)) ?_
            refine on rfl h5 ?_
            refine st (V.conv64 (by omega)) ?_
            refine on rfl h5 ?_
            refine st V.gtr ?_
            refine st (V.pF h5) ?_
            refine sn ?_
            refine cond (fun h6 => ?_) (fun h6 => ?_)
            ·
              have k6 := bp h6
              refine AW.seq ?_
              refine AW.drop (H' := .blk l (.loop { r with state := .busy }) :: .blk b6 (.cells #[.bool false] 4 (0, 0)) :: H) (.cons_cons _ (.cons _ (.cons _ (.cons _ (List.Sublist.refl _))))) ?_
              refine AW.region ?_
              refine se (S.store ?_)
              refine sn ?_
              refine AW.ret ?_
              repeat with_reducible first | refine thn_ret ?_ | refine inb_ret ?_
              refine rpost_r ?_
              exact ⟨⟨[], 0, none, 0, [], 1⟩, false, rfl, by simp [hra, hrb, hrp], .inl ⟨rfl, .inl ⟨.inr (.inr (.inl (by omega))), rfl⟩⟩, ⟨rfl, by simp⟩⟩
            ·
              have k6 := bp h6
              refine AW.skip ?_
              refine AW.seq ?_
              refine AW.region ?_
              refine st V.move ?_
              refine se (S.store ?_)
              refine sn ?_
              refine AW.seq ?_
              refine AW.seq ?_
              refine AW.fact (L.length ≤ c ∧ c ≤ maxLen ∧ (0 < L.length → ∃ b, A = some ⟨b, 0, none⟩)) (fun g w hS => (hS.rowA 1 rfl).2) fun hrow => ?_
              obtain ⟨hrw1, hrw2, hrw3⟩ := hrow
              refine AW.region ?_
              refine st V.assign ?_
              refine sn ?_
              refine AW.block ?_
              refine AW.loopL [13] (55 :: 56 :: 57 :: 58 :: 59 :: 60 :: 61 :: 62 :: 63 :: 64 :: 65 :: 66 :: []) (fun q vs M' H' => ∃ i : Nat, vs = [.int .i64 (i : Int)] ∧ H' = .blk l (.loop { r with state := .busy }) :: .row A L.length c 26 3 cs :: .blk b8 (.cells #[.int .i64 (cellsF d t v).1] 3 (0, 0)) :: .blk b7 (.cells #[.slice A L.length c] 24 (0, 0)) :: .blk b6 (.cells #[.bool false] 4 (0, 0)) :: H ∧ i + q = L.length ∧ ∀ k (h : k < L.length), k < i → same L[k] v = false) (L.length) (⟨0, rfl, rfl, by omega, fun k _ h => by omega⟩) ?_
              intro q9 Ml Hl iL u13 hI u55 u56 u57 u58 u59 u60 u61 u62 u63 u64 u65 u66
              obtain ⟨i, hv, hH, hi, hall⟩ := hI
              subst hH
              cases hv
              refine sa ?_
              refine AW.seq ?_
              refine AW.seq ?_
              refine AW.region ?_
              refine st V.move ?_
              first | refine st V.ld ?_ | refine sq V.lo ?_
              refine st V.len ?_
              refine st V.lss ?_
              refine sn ?_
              refine cond (fun h7 => ?_) (fun h7 => ?_)
              ·
                have k7 := bp h7
                refine AW.skip ?_
                refine AW.seq ?_
                refine AW.block ?_
                refine AW.seq ?_
                have z6 : i < L.length := by omega
                obtain ⟨bL, rfl⟩ := hrw3 (by omega)
                obtain ⟨Ax, cx, xs, a2, a3, a4⟩ := hf.at i z6
                have hcg : Cgs Ml (.blk l (.loop { r with state := .busy }) :: .row (some ⟨bL, 0, none⟩) L.length c 26 3 cs :: .blk b8 (.cells #[.int .i64 (cellsF d t v).1] 3 (0, 0)) :: .blk b7 (.cells #[.slice (some ⟨bL, 0, none⟩) L.length c] 24 (0, 0)) :: .blk b6 (.cells #[.bool false] 4 (0, 0)) :: H) bL (0 + i * 3) 3 [.int .i64 L[i].num, .int .i64 L[i].con, .slice Ax L[i].args.length cx] := ⟨⟨Cel.row 1 rfl (by rw [Nat.zero_add]; exact a2), Cel.row 1 rfl (by rw [Nat.zero_add]; exact a3), Cel.row 1 rfl (by rw [Nat.zero_add]; exact a4), trivial⟩, rfl⟩
                refine AW.regionP mx [0, 1, 2, 3, 4, 5] [[], [], [0, 1], [0, 1, 2], [], [0, 1, 2, 3, 4]] (by kernel_rfl) ?_
                refine DP.lo rfl ?_
                refine DP.p rfl rfl V.move ?_
                refine DP.p rfl rfl (V.ib i rfl z6 rfl) ?_
                refine DP.loA rfl ?_
                refine DP.p rfl rfl V.ldA ?_
                refine DP.e rfl rfl (S.call ?_)
                refine (same_c (SizeOf.sizeOf L[i] + 1) L[i] v (by omega) _ _ Ax cx Av cv (VV.up (x := L[i]) xs) (VV.up hvv)).use ?_
                rintro v17 N17 G17 iz17 ⟨rfl, hG⟩
                obtain rfl := hG.symm
                refine ⟨(by repeat first | exact pk0 | refine pk1 rfl ?_ | refine pk2 ?_ | refine pk3 ?_), ?_⟩
                refine DP.nl ?_
                unfold outQ
                refine cond (fun h8 => ?_) (fun h8 => ?_)
                ·
                  have k8 := bp h8
                  refine AW.seq ?_
                  refine AW.drop (H' := .blk l (.loop { r with state := .busy }) :: .blk b6 (.cells #[.bool false] 4 (0, 0)) :: H) (.cons_cons _ (.cons _ (.cons _ (.cons _ (List.Sublist.refl _))))) ?_
                  refine AW.region ?_
                  refine se (S.store ?_)
                  refine sn ?_
                  refine AW.ret ?_
                  repeat with_reducible first | refine thn_ret ?_ | refine inb_ret ?_
                  refine rpost_r ?_
                  exact ⟨⟨[], 0, none, 0, [], 1⟩, false, rfl, by simp [hra, hrb, hrp], .inl ⟨rfl, .inl ⟨.inr (.inr (.inr ⟨i, z6, by simpa using h8⟩)), rfl⟩⟩, ⟨rfl, by simp⟩⟩
                ·
                  have k8 := bp h8
                  refine AW.skip ?_
                  refine AW.region ?_
                  refine st V.move ?_
                  refine st (V.add64 (by omega)) ?_
                  refine st V.assign ?_
                  refine sn ?_
                  repeat with_reducible refine inb_normal ?_
                  refine thn_normal ?_
                  refine rnd (q9 - 1) _ (by omega) (List.Sublist.refl _) ⟨i + 1, by simp, rfl, by omega, fun k hk hki => ?_⟩
                  rcases Nat.lt_or_ge k i with h | h
                  · exact hall k hk h
                  · obtain rfl : k = i := by omega
                    simpa using h8
              ·
                have k7 := bp h7
                refine AW.exit ?_
                repeat with_reducible refine thn_exit ?_
                refine inb_exit ?_
                refine AW.seq ?_
                have hnb : ¬ badG d t (m.tmod 5) ⟨L, la, A, c, cs, e⟩ v := by
                  rintro (hh | hh | hh | ⟨k, hk, hh⟩)
                  · exact hh (by omega)
                  · dsimp only at hh; omega
                  · omega
                  · dsimp only at hk hh; rw [hall k hk (by omega)] at hh; cases hh
                refine AW.regionPS mx 6 7 [0, 1, 2, 3, 4] [5, 6, 7] [5, 7, 6] [[], [], [0], [], [0, 1, 2, 3], [0, 1, 2, 3, 4], [0, 1, 2, 3, 4, 5], [0, 1, 2, 3, 4]] (by kernel_rfl) ?_
                refine DP.lo rfl ?_
                refine DP.p rfl rfl V.ldA ?_
                refine DP.p rfl rfl V.len ?_
                refine DP.e rfl rfl (S.lit1 (by rfl) (by decide) ?_); intro g70
                refine ⟨(by repeat first | exact pk0 | refine pk1 rfl ?_ | refine pk2 ?_ | refine pk3 ?_), ?_⟩
                refine DP.e rfl rfl (AS.st (S.ap1 (by rfl) (by omega) (by omega) ?_))
                intro A2 c2 hSt
                refine ⟨(by repeat first | exact pk0 | refine pk1 rfl ?_ | refine pk2 ?_ | refine pk3 ?_), ?_⟩
                obtain ⟨bL2, hA2⟩ : ∃ b, A2 = some ⟨b, 0, none⟩ := by obtain ⟨g8, w8, hS8⟩ := hSt; exact (hS8.rowA 1 rfl).2.2.2 (by omega)
                subst hA2
                refine DP.nl ?_
                refine ⟨?_, ?_⟩
                ·
                  refine D.p rfl rfl (V.ib L.length rfl (by omega) rfl) ?_
                  refine D.e rfl rfl (S.stRA (us := [.int .i64 v.num, .int .i64 v.con, .slice Av v.args.length cv]) (by simp [Value.oneCell']) rfl (L.length + 1) c2 (by simp; omega) ?_)
                  refine D.e rfl rfl (S.store ?_)
                  refine D.nl ?_
                  refine AW.seq ?_
                  refine AW.region ?_
                  first | refine st V.ld ?_ | refine sq V.lo ?_
                  refine st V.len ?_
                  refine st V.geq ?_
                  refine sn ?_
                  refine cond (fun h9 => ?_) (fun h9 => ?_)
                  ·
                    have k9 := bp h9
                    refine AW.drop (H' := .blk l (.loop { r with state := .busy }) :: .blk b6 (.cells #[.bool false] 4 (0, 0)) :: H) (.cons_cons _ (.cons _ (.cons _ (.cons _ (List.Sublist.refl _))))) ?_
                    refine AW.exit ?_
                    repeat with_reducible refine thn_exit ?_
                    refine inb_other (by decide) ?_
                    repeat with_reducible refine thn_exit ?_
                    refine rpost_x ?_
                    exact ⟨⟨[], 0, none, 0, [], 2⟩, false, rfl, by simp [hra, hrb, hrp], .inl ⟨rfl, .inr ⟨hnb, by simp⟩⟩, ⟨rfl, by simp⟩⟩
                  ·
                    have k9 := bp h9
                    refine AW.skip ?_
                    repeat with_reducible refine inb_normal ?_
                    refine rpost_n ?_
                    have hput : putR (cs ++ [.int .i64 0, .int .i64 0, .slice none 0 0]) (0 + L.length * 3) [.int .i64 v.num, .int .i64 v.con, .slice Av v.args.length cv] = cs ++ [.int .i64 v.num, .int .i64 v.con, .slice Av v.args.length cv] := by rw [Nat.zero_add, ← hcl]; exact putR_end _ _ _ rfl
                    rw [hput]
                    exact ⟨⟨L ++ [v], (cellsF d t v).1, some ⟨bL2, 0, none⟩, c2, cs ++ [.int .i64 v.num, .int .i64 v.con, .slice Av v.args.length cv], 0⟩, true, rfl, by simp [hra, hrb, hrp], .inr ⟨rfl, hnb, rfl, rfl, by simp⟩, ⟨(hf.up (M' := Ml)).app (FlV.one (VV.up hvv)), by simp; omega⟩⟩
                ·
                  refine D.p rfl rfl (V.ib L.length rfl (by omega) rfl) ?_
                  refine D.e rfl rfl (S.store ?_)
                  refine D.e rfl rfl (S.stRA (us := [.int .i64 v.num, .int .i64 v.con, .slice Av v.args.length cv]) (by simp [Value.oneCell']) rfl (L.length + 1) c2 (by simp; omega) ?_)
                  refine D.nl ?_
                  refine AW.seq ?_
                  refine AW.region ?_
                  first | refine st V.ld ?_ | refine sq V.lo ?_
                  refine st V.len ?_
                  refine st V.geq ?_
                  refine sn ?_
                  refine cond (fun h10 => ?_) (fun h10 => ?_)
                  ·
                    have k10 := bp h10
                    refine AW.drop (H' := .blk l (.loop { r with state := .busy }) :: .blk b6 (.cells #[.bool false] 4 (0, 0)) :: H) (.cons_cons _ (.cons _ (.cons _ (.cons _ (List.Sublist.refl _))))) ?_
                    refine AW.exit ?_
                    repeat with_reducible refine thn_exit ?_
                    refine inb_other (by decide) ?_
                    repeat with_reducible refine thn_exit ?_
                    refine rpost_x ?_
                    exact ⟨⟨[], 0, none, 0, [], 2⟩, false, rfl, by simp [hra, hrb, hrp], .inl ⟨rfl, .inr ⟨hnb, by simp⟩⟩, ⟨rfl, by simp⟩⟩
                  ·
                    have k10 := bp h10
                    refine AW.skip ?_
                    repeat with_reducible refine inb_normal ?_
                    refine rpost_n ?_
                    have hput : putR (cs ++ [.int .i64 0, .int .i64 0, .slice none 0 0]) (0 + L.length * 3) [.int .i64 v.num, .int .i64 v.con, .slice Av v.args.length cv] = cs ++ [.int .i64 v.num, .int .i64 v.con, .slice Av v.args.length cv] := by rw [Nat.zero_add, ← hcl]; exact putR_end _ _ _ rfl
                    rw [hput]
                    exact ⟨⟨L ++ [v], (cellsF d t v).1, some ⟨bL2, 0, none⟩, c2, cs ++ [.int .i64 v.num, .int .i64 v.con, .slice Av v.args.length cv], 0⟩, true, rfl, by simp [hra, hrb, hrp], .inr ⟨rfl, hnb, rfl, rfl, by simp⟩, ⟨(hf.up (M' := Ml)).app (FlV.one (VV.up hvv)), by simp; omega⟩⟩
          ·
            have k5 := bp h5
            refine off rfl h5 ?_
            refine off rfl h5 ?_
            refine off rfl h5 ?_
            refine off rfl h5 ?_
            refine st (V.pT h5) ?_
            refine sn ?_
            refine cond (fun _ => ?_) (fun h => by cases h)
            refine AW.seq ?_
            refine AW.drop (H' := .blk l (.loop { r with state := .busy }) :: .blk b6 (.cells #[.bool false] 4 (0, 0)) :: H) (.cons_cons _ (.cons _ (.cons _ (.cons _ (List.Sublist.refl _))))) ?_
            refine AW.region ?_
            refine se (S.store ?_)
            refine sn ?_
            refine AW.ret ?_
            repeat with_reducible first | refine thn_ret ?_ | refine inb_ret ?_
            refine rpost_r ?_
            exact ⟨⟨[], 0, none, 0, [], 1⟩, false, rfl, by simp [hra, hrb, hrp], .inl ⟨rfl, .inl ⟨.inr (.inl (by dsimp only; omega)), rfl⟩⟩, ⟨rfl, by simp⟩⟩
        ·
          have k4 := bp h4
          refine off rfl h4 ?_
          refine off rfl h4 ?_
          refine st (V.pT h4) ?_
          refine st V.move ?_
          refine off rfl rfl ?_
          refine off rfl rfl ?_
          refine off rfl rfl ?_
          refine off rfl rfl ?_
          refine off rfl rfl ?_
          refine st (V.pT rfl) ?_
          refine sn ?_
          refine cond (fun _ => ?_) (fun h => by cases h)
          refine AW.seq ?_
          refine AW.drop (H' := .blk l (.loop { r with state := .busy }) :: .blk b6 (.cells #[.bool false] 4 (0, 0)) :: H) (.cons_cons _ (.cons _ (.cons _ (.cons _ (List.Sublist.refl _))))) ?_
          refine AW.region ?_
          refine se (S.store ?_)
          refine sn ?_
          refine AW.ret ?_
          repeat with_reducible first | refine thn_ret ?_ | refine inb_ret ?_
          refine rpost_r ?_
          exact ⟨⟨[], 0, none, 0, [], 1⟩, false, rfl, by simp [hra, hrb, hrp], .inl ⟨rfl, .inl ⟨.inl (by omega), rfl⟩⟩, ⟨rfl, by simp⟩⟩
      refine AC.heqI (H' := (fun (b : Bool) (s : GS) => if b = true then .blk l (.loop { r with state := .ready, pending := none }) :: .row s.A s.L.length s.c 26 3 s.cs :: .blk b8 (.cells #[.int .i64 s.la] 3 (0, 0)) :: .blk b7 (.cells #[.slice s.A s.L.length s.c] 24 (0, 0)) :: .blk b6 (.cells #[.bool false] 4 (0, 0)) :: H else .blk l (.loop { r with state := .done, pending := some (if s.e = 1 then .ret else .exit 0) }) :: .blk b6 (.cells #[.bool false] 4 (0, 0)) :: H) true ⟨[], 0, none, 0, [], 0⟩) (by simp [hrr]) ?_
      refine (all1r_c (fun (b : Bool) (s : GS) => if b = true then .blk l (.loop { r with state := .ready, pending := none }) :: .row s.A s.L.length s.c 26 3 s.cs :: .blk b8 (.cells #[.int .i64 s.la] 3 (0, 0)) :: .blk b7 (.cells #[.slice s.A s.L.length s.c] 24 (0, 0)) :: .blk b6 (.cells #[.bool false] 4 (0, 0)) :: H else .blk l (.loop { r with state := .done, pending := some (if s.e = 1 then .ret else .exit 0) }) :: .blk b6 (.cells #[.bool false] 4 (0, 0)) :: H) GdG gdg_up (fG d t (m.tmod 5)) (.func (.yield l) #[] #[]) d t (m.tmod 5) (by omega) ⟨[], 0, none, 0, [], 0⟩ Mr Ad cd q1 q2 q3 hd.upD (Mb.up (h := (inferInstance : LeT N5 Mr)) m1) (Mb.up (h := (inferInstance : LeT N5 Mr)) m2) (Mb.up (h := (inferInstance : LeT N5 Mr)) m3) ⟨rfl, by simp⟩ cb).use ?_
      rintro vz Nz Gz izz ⟨rfl, s4, b4', rfl, hf4, hg4⟩
      have he4 := gr_end hck hmo hf4
      refine bcase b4' (fun hp => ?_) (fun hp => ?_)
      ·
        subst hp
        refine RQ.heq (H' := .blk l (.loop { r with state := .ready, pending := none }) :: .row s4.A s4.L.length s4.c 26 3 s4.cs :: .blk b8 (.cells #[.int .i64 s4.la] 3 (0, 0)) :: .blk b7 (.cells #[.slice s4.A s4.L.length s4.c] 24 (0, 0)) :: .blk b6 (.cells #[.bool false] 4 (0, 0)) :: H) (by simp) ?_
        refine rangeQ_n ?_
        refine AW.seq ?_
        refine AW.region ?_
        refine se (S.call ?_)
        refine (awake_c _ _ hGM.up).use ?_
        rintro v21 N21 G21 iz21 ⟨rfl, hG⟩
        obtain rfl := hG.symm
        refine se (S.store ?_)
        refine sn ?_
        refine AW.ret ?_
        repeat with_reducible first | refine thn_ret ?_ | refine inb_ret ?_
        refine finMc (fun _ => Res.icC rfl) ?_
        refine ⟨_, (by repeat first | exact List.Sublist.refl _ | apply List.Sublist.cons), fun _ _ => ⟨rfl, rfl⟩⟩
      ·
        subst hp
        refine RQ.heq (H' := .blk l (.loop { r with state := .done, pending := some (.exit 0) }) :: .blk b6 (.cells #[.bool false] 4 (0, 0)) :: H) (by simp [he4]) ?_
        refine rangeQ_c ?_
        refine AW.exit ?_
        repeat with_reducible refine thn_exit ?_
        refine inb_exit ?_
        refine AW.seq ?_
        refine AW.region ?_
        refine se (S.call ?_)
        refine (awake_c _ _ hGM.up).use ?_
        rintro v21 N21 G21 iz21 ⟨rfl, hG⟩
        obtain rfl := hG.symm
        refine se (S.store ?_)
        refine sn ?_
        refine AW.ret ?_
        repeat with_reducible first | refine thn_ret ?_ | refine inb_ret ?_
        refine finMc (fun _ => Res.icC rfl) ?_
        refine ⟨_, (by repeat first | exact List.Sublist.refl _ | apply List.Sublist.cons), fun _ _ => ⟨rfl, rfl⟩⟩
  ·
    have k1 := bp h1
    refine off rfl h1 ?_
    refine off rfl h1 ?_
    refine st (V.pT h1) ?_
    refine sn ?_
    refine cond (fun _ => ?_) (fun h => by cases h)
    refine AW.seq ?_
    refine AW.region ?_
    refine se (S.call ?_)
    refine (awake_c _ _ hGM.up).use ?_
    rintro v2 N2 G2 iz2 ⟨rfl, hG⟩
    obtain rfl := hG.symm
    refine se (S.store ?_)
    refine sn ?_
    refine AW.ret ?_
    repeat with_reducible first | refine thn_ret ?_ | refine inb_ret ?_
    refine finMc (fun _ => Res.icC rfl) ?_
    refine ⟨_, (by repeat first | exact List.Sublist.refl _ | apply List.Sublist.cons), fun _ _ => ⟨rfl, rfl⟩⟩
end Go.Proofs.YtieaiheejhmbfaaGreatDoor.ML
