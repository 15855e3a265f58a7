/- Walks of functions of the program, in the abstract layer. No conditions. -/
import Derived.Test.YtieaiheejhmbfaaGreatDoorPk35
namespace Go.Proofs.YtieaiheejhmbfaaGreatDoor.ML
open Go.RowKit
set_option linter.unusedVariables false
set_option linter.unusedSimpArgs false
set_option maxHeartbeats 1600000 in
set_option synthInstance.maxHeartbeats 400000 in
set_option synthInstance.maxSize 100000 in
set_option maxRecDepth 100000 in
theorem r_build_c (d : List DT) (hT : TypedP d) (hB : BdD d) (hN : NmOk d) (hu : (cnL d).Nodup) : ∀ (z : Nat) (x : TT), SizeOf.sizeOf x < z → ∀ (t : Int), (0 ≤ t ∧ t ≤ d.length) → ∀ (M : Mem) (H : Heap) (Ad : Option Addr) (cd : Nat) (A : Option Addr) (c : Nat), RdS 2 (RdD M) Ad cd d → VVT M A c x →
    AC Tryz.prog 54 [.slice Ad d.length cd, .int .i64 t, .agg #[.string x.name, .int .i64 x.num, .slice A x.args.length c]] M H fun r M' H' => VtR r M' (bdV d t x) ∧ H' = H
  | 0, _, hz => by omega
  | z + 1, x, hz => by
    intro t ht M H Ad cd A c hd hx
    have hbd := hd.bd
    have hba : x.args.length ≤ 140737488355328 := RdS.bd hx
    refine AC.of (n := 88) Tryz.func54 rfl rfl ?_
    dsimp only [List.replicate, List.cons_append, List.nil_append]
    refine AW.seq ?_
    refine AW.region ?_
    refine se (S.boxM ?_); intro b5 M5 i5 j5
    refine se (S.alloc ?_); intro b6
    refine st V.assign ?_
    refine sn ?_
    refine AW.seq ?_
    refine AW.seq ?_
    refine AW.region ?_
    refine st V.move ?_
    refine st V.eql ?_
    refine sn ?_
    refine cond (fun h1 => ?_) (fun h1 => ?_)
    ·
      have k1 := bp h1
      refine AW.seq ?_
      refine AW.regionD mx true [0, 1, 2, 3, 4, 5, 6, 7] [[], [0], [0, 1], [], [3], [3, 4], [0, 1, 2], [0, 1, 2, 3, 4, 5, 6]] (by kernel_rfl) ?_
      refine D.p rfl rfl V.faz ?_
      refine D.p rfl rfl V.ld ?_
      refine D.p rfl rfl (V.build (cells := [.int .i64 x.num, .int .i64 0, .slice none 0 0]) rfl) ?_
      refine D.p rfl rfl V.fa0 ?_
      refine D.p rfl rfl V.ld ?_
      refine D.p rfl rfl V.eqs ?_
      refine D.e rfl rfl (S.storeA rfl ?_)
      refine D.p rfl rfl V.assign ?_
      refine D.nl ?_
      refine AW.ret ?_
      repeat with_reducible first | refine thn_ret ?_ | refine inb_ret ?_
      refine fin (Res.ic2 rfl) ?_
      subst k1
      rw [bd_0]
      refine ⟨_, (by repeat first | exact List.Sublist.refl _ | apply List.Sublist.cons), ⟨_, _, _, _, _, _, rfl, ?_, ?_⟩, rfl⟩
      · split <;> simp_all
      · intro v hv
        split at hv
        · cases hv; exact ⟨rfl, rfl, rfl, RdS.nil⟩
        · cases hv
    ·
      have k1 := bp h1
      refine AW.skip ?_
      refine AW.seq ?_
      refine AW.seq ?_
      obtain ⟨p, rfl⟩ : ∃ p : Nat, t = (p : Int) + 1 := ⟨(t - 1).toNat, by omega⟩
      have hp0 : p < d.length := by omega
      obtain ⟨b8, o8, hA8, i0, ib0, A8, c8, i1, i2⟩ := hd.at p hp0
      have hb8 := i2.bd
      have hbp := (hB p hp0).2
      refine AW.region ?_
      refine st V.assign ?_
      refine sn ?_
      refine AW.block ?_
      refine AW.loopL [8] (7 :: 9 :: 10 :: 11 :: 12 :: 13 :: 22 :: 23 :: 24 :: 25 :: 26 :: 27 :: 28 :: 29 :: 30 :: 31 :: 32 :: 33 :: 34 :: 35 :: 36 :: 37 :: 38 :: 39 :: 40 :: 41 :: 42 :: 43 :: 44 :: 45 :: 46 :: 47 :: 48 :: 49 :: 50 :: 51 :: 52 :: 53 :: 54 :: 55 :: 56 :: 57 :: 58 :: 59 :: 60 :: 61 :: 62 :: 63 :: 64 :: 65 :: 66 :: 67 :: 68 :: 69 :: 70 :: 71 :: 72 :: 73 :: 74 :: 75 :: 76 :: 77 :: 78 :: 79 :: 80 :: 81 :: 82 :: 83 :: 84 :: 85 :: 86 :: 87 :: 88 :: 89 :: []) (fun m vs M' H' => ∃ i : Nat, vs = [.int .i64 (i : Int)] ∧ H' = .blk b6 (.cells #[.int .i64 0, .int .i64 0, .slice none 0 0] 26 (0, 0)) :: H ∧ i + m = d[p].cons.length ∧ ∀ k (h : k < d[p].cons.length), k < i → ¬ (d[p].cons[k].name = x.name ∧ d[p].cons[k].fields.length = x.args.length)) (d[p].cons.length) (⟨0, rfl, rfl, by omega, fun k _ h => by omega⟩) ?_
      intro m Ml Hl iL u8 hI u7 u9 u10 u11 u12 u13 u22 u23 u24 u25 u26 u27 u28 u29 u30 u31 u32 u33 u34 u35 u36 u37 u38 u39 u40 u41 u42 u43 u44 u45 u46 u47 u48 u49 u50 u51 u52 u53 u54 u55 u56 u57 u58 u59 u60 u61 u62 u63 u64 u65 u66 u67 u68 u69 u70 u71 u72 u73 u74 u75 u76 u77 u78 u79 u80 u81 u82 u83 u84 u85 u86 u87 u88 u89
      obtain ⟨i, hv, hH, hi, hall⟩ := hI
      subst hH
      cases hv
      refine sa ?_
      refine AW.seq ?_
      refine AW.seq ?_
      refine AW.region ?_
      refine st V.move ?_
      refine st V.move ?_
      refine st V.move ?_
      refine st (V.sub64 (by omega)) ?_
      refine st (V.ib p (by omega) hp0 hA8) ?_
      refine st V.fa ?_
      first | refine st V.ld ?_ | refine sq V.lo ?_
      refine st V.len ?_
      refine st V.lss ?_
      refine sn ?_
      refine cond (fun h2 => ?_) (fun h2 => ?_)
      ·
        have k2 := bp h2
        refine AW.skip ?_
        refine AW.seq ?_
        refine AW.block ?_
        refine AW.seq ?_
        have z5 : i < d[p].cons.length := by omega
        obtain ⟨bx9, o9, hA9, j0, jb, A9, c9, j1, j2⟩ := (i2.upC (M' := Ml)).at i z5
        have hb9 := j2.bd
        have hbf := hbp i z5
        refine AW.region ?_
        refine st V.move ?_
        refine st V.move ?_
        refine st (V.sub64 (by omega)) ?_
        refine st (V.ib p (by omega) hp0 hA8) ?_
        refine st V.fa ?_
        first | refine st V.ld ?_ | refine sq V.lo ?_
        refine st V.move ?_
        refine st (V.ib i rfl z5 hA9) ?_
        first | refine st V.ldA ?_ | refine sq V.loA ?_
        refine se (S.alloc ?_); intro b9
        refine se (S.storeA rfl ?_)
        refine sn ?_
        refine AW.seq ?_
        refine AW.seq ?_
        refine AW.fz 0 fun Mz iz9 jz => ?_
        refine AW.region ?_
        refine st V.fa0 ?_
        first | refine st V.ld ?_ | refine sq V.lo ?_
        refine st V.fa0 ?_
        first | refine st V.ld ?_ | refine sq V.lo ?_
        refine st V.nes ?_
        refine st V.move ?_
        refine onoff true rfl rfl (fun h3 => ?_) (fun h3 => ?_)
        ·
          have k3 := bp h3
          refine st V.faz ?_
          refine on rfl h3 ?_
          first | refine st V.ld ?_ | refine sq V.lo ?_
          refine on rfl h3 ?_
          refine st V.len ?_
          refine on rfl h3 ?_
          refine st V.faz ?_
          refine on rfl h3 ?_
          first | refine st V.ld ?_ | refine sq V.lo ?_
          refine on rfl h3 ?_
          refine st V.len ?_
          refine on rfl h3 ?_
          refine st V.neq ?_
          refine st (V.pF h3) ?_
          refine sn ?_
          refine cond (fun h4 => ?_) (fun h4 => ?_)
          ·
            have k4 := bp h4
            refine AW.exit ?_
            repeat with_reducible refine thn_exit ?_
            refine inb_exit ?_
            refine AW.region ?_
            refine st V.move ?_
            refine st (V.add64 (by omega)) ?_
            refine st V.assign ?_
            refine sn ?_
            repeat with_reducible refine inb_normal ?_
            refine thn_normal ?_
            refine rnd (m - 1) _ (by omega) (List.Sublist.refl _) ⟨i + 1, by simp, rfl, by omega, fun k hk hki => ?_⟩
            rcases Nat.lt_or_ge k i with h | h
            · exact hall k hk h
            · obtain rfl : k = i := by omega
              rintro ⟨g1, g2⟩
              omega
          ·
            have k4 := bp h4
            refine AW.skip ?_
            refine AW.seq ?_
            have hnm : d[p].cons[i].name = x.name := by simp_all
            have hln : d[p].cons[i].fields.length = x.args.length := by omega
            refine AW.region ?_
            refine st V.move ?_
            refine st (V.build (cells := [.int .i64 0, .int .i64 i, .slice none 0 0]) rfl) ?_
            refine se (S.alloc ?_); intro b10
            refine se (S.storeA rfl ?_)
            refine sn ?_
            refine AW.seq ?_
            refine AW.seq ?_
            refine AW.region ?_
            refine st V.assign ?_
            refine sn ?_
            refine AW.block ?_
            refine AW.row0 26 3 ?_
            refine AW.loopL [11] (7 :: 12 :: 13 :: 58 :: 59 :: 60 :: 61 :: 62 :: 63 :: 64 :: 65 :: 66 :: 67 :: 68 :: 69 :: 70 :: 71 :: 72 :: 73 :: 74 :: 75 :: 76 :: 77 :: 78 :: 79 :: 80 :: 81 :: 82 :: 83 :: 84 :: 85 :: 86 :: 87 :: 88 :: []) (fun m vs M' H' => ∃ (j : Nat) (A' : Option Addr) (c' : Nat) (cs : List Value) (l : List VT), vs = [.int .i64 (j : Int)] ∧ H' = .row A' j c' 26 3 cs :: .blk b10 (.cells #[.int .i64 0, .int .i64 i, .slice A' j c'] 26 (0, 0)) :: .blk b6 (.cells #[.int .i64 0, .int .i64 0, .slice none 0 0] 26 (0, 0)) :: H ∧ j + m = d[p].cons[i].fields.length ∧ FlV M' cs l ∧ l.length = j ∧ bdL d d[p].cons[i].fields x.args = (bdL d (d[p].cons[i].fields.drop j) (x.args.drop j)).map (l ++ ·)) (d[p].cons[i].fields.length) (⟨0, none, 0, [], [], rfl, rfl, by omega, rfl, rfl, by simp⟩) ?_
            intro m1 Ml1 Hl1 iL1 u11 hI1 u7 u12 u13 u58 u59 u60 u61 u62 u63 u64 u65 u66 u67 u68 u69 u70 u71 u72 u73 u74 u75 u76 u77 u78 u79 u80 u81 u82 u83 u84 u85 u86 u87 u88
            obtain ⟨j, A', c', cs, l, hv', hH, hj, hf, hll, hw⟩ := hI1
            subst hH
            cases hv'
            refine sa ?_
            refine AW.seq ?_
            refine AW.seq ?_
            refine AW.region ?_
            refine st V.move ?_
            refine st V.faz ?_
            first | refine st V.ld ?_ | refine sq V.lo ?_
            refine st V.len ?_
            refine st V.lss ?_
            refine sn ?_
            refine cond (fun h5 => ?_) (fun h5 => ?_)
            ·
              have k5 := bp h5
              refine AW.skip ?_
              refine AW.seq ?_
              refine AW.block ?_
              refine AW.seq ?_
              have z6 : j < x.args.length := by omega
              obtain ⟨ba, oa, hAa, ea⟩ := (VVT.up (M' := Ml1) hx).at j z6
              obtain ⟨Ax, cx, x0, x1, x2, xs⟩ := ea.get
              obtain ⟨bw, ow, hAw, ew⟩ := (j2.upI (M' := Ml1)).at j (by omega)
              have ew : Mk Ml1 bw (ow + j * 1) (.int .i64 d[p].cons[i].fields[j]) := ew
              refine AW.regionD3 mx 11 15 [0, 1, 2, 3, 4, 5, 6, 7, 8, 9, 10, 11, 12, 13, 14, 15, 16, 17] [0, 1, 2, 3, 4, 5, 6, 7, 8, 9, 10, 15, 11, 12, 13, 14, 16, 17] [[], [], [1], [], [1, 2, 3], [1, 2, 3, 4], [], [6], [], [6, 7, 8], [6, 7, 8, 9], [0, 1, 2, 3, 4, 5, 6, 7, 8, 9, 10], [0, 1, 2, 3, 4, 5, 6, 7, 8, 9, 10, 11], [0, 1, 2, 3, 4, 5, 6, 7, 8, 9, 10, 11, 12], [0, 1, 2, 3, 4, 5, 6, 7, 8, 9, 10, 11, 12], [], [0, 1, 2, 3, 4, 5, 6, 7, 8, 9, 10, 11, 12, 13, 15], [0, 1, 2, 3, 4, 5, 6, 7, 8, 9, 10, 11, 12, 13, 14, 15, 16]] (by kernel_rfl) ?_ ?_
              ·
                refine D.p rfl rfl V.move ?_
                refine D.p rfl rfl V.faz ?_
                refine D.p rfl rfl V.ld ?_
                refine D.p rfl rfl V.move ?_
                refine D.p rfl rfl (V.ib j rfl (by omega) hAw) ?_
                refine D.p rfl rfl V.ld ?_
                refine D.p rfl rfl V.faz ?_
                refine D.p rfl rfl V.ld ?_
                refine D.p rfl rfl V.move ?_
                refine D.p rfl rfl (V.ib j rfl z6 hAa) ?_
                refine D.p rfl rfl V.ldA ?_
                refine D.e rfl rfl (S.call ?_)
                refine (r_build_c d hT hB hN hu z x.args[j] (by have := List.sizeOf_lt_of_mem (List.getElem_mem z6); cases x; simp [TT.args] at *; omega) d[p].cons[i].fields[j] (hT p hp0 i z5 _ (List.getElem_mem (by omega))) _ _ Ad cd Ax cx hd.upD (VVT.up (x := x.args[j]) xs)).use ?_
                rintro v8 N8 G8 iz8 ⟨⟨n8, k8, Ay, l8, cy, ok8, rfl, ho8, hw8⟩, hG⟩
                obtain rfl := hG.symm
                refine D.p rfl rfl V.move ?_
                refine D.p rfl rfl V.ext ?_
                refine D.p rfl rfl V.ext ?_
                refine D.e rfl rfl (S.alloc ?_); intro b12
                refine D.e rfl rfl (S.storeA rfl ?_)
                refine D.p rfl rfl V.assign ?_
                refine D.nl ?_
                refine AW.seq ?_
                refine AW.seq ?_
                refine AW.fz 0 fun Mv iv jv => ?_
                refine AW.region ?_
                refine st V.move ?_
                refine st V.not ?_
                refine sn ?_
                refine cond (fun h6 => ?_) (fun h6 => ?_)
                ·
                  have k6 := bp h6
                  refine AW.seq ?_
                  refine AW.region ?_
                  refine st (V.build (cells := [.int .i64 0, .int .i64 0, .slice none 0 0]) rfl) ?_
                  refine se (S.storeA rfl ?_)
                  refine st V.assign ?_
                  refine sn ?_
                  refine AW.ret ?_
                  repeat with_reducible first | refine thn_ret ?_ | refine inb_ret ?_
                  refine fin (Res.ic2 rfl) ?_
                  have e8 : bdV d d[p].cons[i].fields[j] x.args[j] = none := by
                    cases hq : bdV d d[p].cons[i].fields[j] x.args[j] with
                    | none => rfl
                    | some v => rw [hq] at ho8; subst ho8; simp_all
                  have e9 : bdV d ((p : Int) + 1) x = none := by rw [bd_hit hN hu p hp0 i z5 x hnm hln, bdL_fail z6 (by omega) e8 hw]; rfl
                  refine ⟨_, (by repeat first | exact List.Sublist.refl _ | apply List.Sublist.cons), VtR.none e9, rfl⟩
                ·
                  have k6 := bp h6
                  refine AW.skip ?_
                  refine AW.region ?_
                  refine st V.faz ?_
                  first | refine st V.ld ?_ | refine sq V.lo ?_
                  first | refine st V.ldA ?_ | refine sq V.loA ?_
                  refine se (S.lit1 (by rfl) (by decide) ?_); intro g86
                  refine se (S.ap1 (by rfl) (by omega) (by omega) ?_)
                  intro A2 c2
                  refine st V.faz ?_
                  refine se (S.store ?_)
                  refine sn ?_
                  refine AW.region ?_
                  refine st V.move ?_
                  refine st (V.add64 (by omega)) ?_
                  refine st V.assign ?_
                  refine sn ?_
                  repeat with_reducible refine inb_normal ?_
                  refine thn_normal ?_
                  obtain ⟨v8, hv8⟩ : ∃ v, bdV d d[p].cons[i].fields[j] x.args[j] = some v := Option.isSome_iff_exists.1 (by rw [← ho8]; simp_all)
                  obtain ⟨rfl, rfl, rfl, hvv⟩ := hw8 v8 hv8
                  refine rnd (m1 - 1) _ (by omega) (List.Sublist.refl _) ⟨j + 1, A2, c2, _, l ++ [v8], by simp, rfl, by omega, (hf.up (M' := Mv)).app (FlV.one (VV.up hvv)), by simp [hll], bdL_step z6 (by omega) hv8 hw⟩
              ·
                refine D.p rfl rfl V.move ?_
                refine D.p rfl rfl V.faz ?_
                refine D.p rfl rfl V.ld ?_
                refine D.p rfl rfl V.move ?_
                refine D.p rfl rfl (V.ib j rfl (by omega) hAw) ?_
                refine D.p rfl rfl V.ld ?_
                refine D.p rfl rfl V.faz ?_
                refine D.p rfl rfl V.ld ?_
                refine D.p rfl rfl V.move ?_
                refine D.p rfl rfl (V.ib j rfl z6 hAa) ?_
                refine D.p rfl rfl V.ldA ?_
                refine D.e rfl rfl (S.alloc ?_); intro b12
                refine D.e rfl rfl (S.call ?_)
                refine (r_build_c d hT hB hN hu z x.args[j] (by have := List.sizeOf_lt_of_mem (List.getElem_mem z6); cases x; simp [TT.args] at *; omega) d[p].cons[i].fields[j] (hT p hp0 i z5 _ (List.getElem_mem (by omega))) _ _ Ad cd Ax cx hd.upD (VVT.up (x := x.args[j]) xs)).use ?_
                rintro v8 N8 G8 iz8 ⟨⟨n8, k8, Ay, l8, cy, ok8, rfl, ho8, hw8⟩, hG⟩
                obtain rfl := hG.symm
                refine D.p rfl rfl V.move ?_
                refine D.p rfl rfl V.ext ?_
                refine D.p rfl rfl V.ext ?_
                refine D.e rfl rfl (S.storeA rfl ?_)
                refine D.p rfl rfl V.assign ?_
                refine D.nl ?_
                refine AW.seq ?_
                refine AW.seq ?_
                refine AW.fz 0 fun Mv iv jv => ?_
                refine AW.region ?_
                refine st V.move ?_
                refine st V.not ?_
                refine sn ?_
                refine cond (fun h7 => ?_) (fun h7 => ?_)
                ·
                  have k7 := bp h7
                  refine AW.seq ?_
                  refine AW.region ?_
                  refine st (V.build (cells := [.int .i64 0, .int .i64 0, .slice none 0 0]) rfl) ?_
                  refine se (S.storeA rfl ?_)
                  refine st V.assign ?_
                  refine sn ?_
                  refine AW.ret ?_
                  repeat with_reducible first | refine thn_ret ?_ | refine inb_ret ?_
                  refine fin (Res.ic2 rfl) ?_
                  have e8 : bdV d d[p].cons[i].fields[j] x.args[j] = none := by
                    cases hq : bdV d d[p].cons[i].fields[j] x.args[j] with
                    | none => rfl
                    | some v => rw [hq] at ho8; subst ho8; simp_all
                  have e9 : bdV d ((p : Int) + 1) x = none := by rw [bd_hit hN hu p hp0 i z5 x hnm hln, bdL_fail z6 (by omega) e8 hw]; rfl
                  refine ⟨_, (by repeat first | exact List.Sublist.refl _ | apply List.Sublist.cons), VtR.none e9, rfl⟩
                ·
                  have k7 := bp h7
                  refine AW.skip ?_
                  refine AW.region ?_
                  refine st V.faz ?_
                  first | refine st V.ld ?_ | refine sq V.lo ?_
                  first | refine st V.ldA ?_ | refine sq V.loA ?_
                  refine se (S.lit1 (by rfl) (by decide) ?_); intro g86
                  refine se (S.ap1 (by rfl) (by omega) (by omega) ?_)
                  intro A2 c2
                  refine st V.faz ?_
                  refine se (S.store ?_)
                  refine sn ?_
                  refine AW.region ?_
                  refine st V.move ?_
                  refine st (V.add64 (by omega)) ?_
                  refine st V.assign ?_
                  refine sn ?_
                  repeat with_reducible refine inb_normal ?_
                  refine thn_normal ?_
                  obtain ⟨v8, hv8⟩ : ∃ v, bdV d d[p].cons[i].fields[j] x.args[j] = some v := Option.isSome_iff_exists.1 (by rw [← ho8]; simp_all)
                  obtain ⟨rfl, rfl, rfl, hvv⟩ := hw8 v8 hv8
                  refine rnd (m1 - 1) _ (by omega) (List.Sublist.refl _) ⟨j + 1, A2, c2, _, l ++ [v8], by simp, rfl, by omega, (hf.up (M' := Mv)).app (FlV.one (VV.up hvv)), by simp [hll], bdL_step z6 (by omega) hv8 hw⟩
            ·
              have k5 := bp h5
              refine AW.exit ?_
              repeat with_reducible refine thn_exit ?_
              refine inb_exit ?_
              refine AW.seq ?_
              refine AW.kp 0 fun Mw iw hk' => ?_
              refine AW.region ?_
              first | refine st V.ldA ?_ | refine sq V.loA ?_
              refine se (S.storeA rfl ?_)
              refine st V.assign ?_
              refine sn ?_
              refine AW.ret ?_
              repeat with_reducible first | refine thn_ret ?_ | refine inb_ret ?_
              refine fin (Res.ic2 rfl) ?_
              obtain ⟨hkl, hr⟩ := hk'.vals hf.up (by omega)
              have e9 : bdV d ((p : Int) + 1) x = some ⟨0, (i : Int), l⟩ := by rw [bd_hit hN hu p hp0 i z5 x hnm hln, bdL_end (by omega) hw]; rfl
              refine ⟨_, (by repeat first | exact List.Sublist.refl _ | apply List.Sublist.cons), VtR.some e9 hkl hr, rfl⟩
        ·
          have k3 := bp h3
          refine off rfl h3 ?_
          refine off rfl h3 ?_
          refine off rfl h3 ?_
          refine off rfl h3 ?_
          refine off rfl h3 ?_
          refine off rfl h3 ?_
          refine st (V.pT h3) ?_
          refine sn ?_
          refine cond (fun _ => ?_) (fun h => by cases h)
          refine AW.exit ?_
          repeat with_reducible refine thn_exit ?_
          refine inb_exit ?_
          refine AW.region ?_
          refine st V.move ?_
          refine st (V.add64 (by omega)) ?_
          refine st V.assign ?_
          refine sn ?_
          repeat with_reducible refine inb_normal ?_
          refine thn_normal ?_
          refine rnd (m - 1) _ (by omega) (List.Sublist.refl _) ⟨i + 1, by simp, rfl, by omega, fun k hk hki => ?_⟩
          rcases Nat.lt_or_ge k i with h | h
          · exact hall k hk h
          · obtain rfl : k = i := by omega
            rintro ⟨g1, g2⟩
            simp_all
      ·
        have k2 := bp h2
        refine AW.exit ?_
        repeat with_reducible refine thn_exit ?_
        refine inb_exit ?_
        refine AW.seq ?_
        refine AW.region ?_
        refine st (V.build (cells := [.int .i64 0, .int .i64 0, .slice none 0 0]) rfl) ?_
        refine se (S.storeA rfl ?_)
        refine st V.assign ?_
        refine sn ?_
        refine AW.ret ?_
        repeat with_reducible first | refine thn_ret ?_ | refine inb_ret ?_
        refine fin (Res.ic2 rfl) ?_
        refine ⟨_, (by repeat first | exact List.Sublist.refl _ | apply List.Sublist.cons), VtR.none (bd_miss p hp0 x fun k hk => hall k hk (by omega)), rfl⟩
end Go.Proofs.YtieaiheejhmbfaaGreatDoor.ML
/- Walks of functions of the program, in the abstract layer. No conditions. -/
namespace Go.Proofs.YtieaiheejhmbfaaGreatDoor.ML
open Go.RowKit
set_option linter.unusedVariables false
set_option linter.unusedSimpArgs false
set_option maxHeartbeats 1600000 in
set_option synthInstance.maxHeartbeats 400000 in
set_option synthInstance.maxSize 100000 in
set_option maxRecDepth 100000 in
theorem r_parse_c (M : Mem) (H : Heap) (Ad : Option Addr) (cd : Nat) (d : List DT) (hd : RdS 2 (RdD M) Ad cd d) (t : Int) (s : ByteArray) (hsz : s.size ≤ 140737488355328) :
    AC Tryz.prog 23 [.slice Ad d.length cd, .int .i64 t, .string s] M H fun r M' H' => PzR r M' (parseF d t s) ∧ H' = H := by
  refine AC.of (n := 58) Tryz.func23 rfl rfl ?_
  dsimp only [List.replicate, List.cons_append, List.nil_append]
  refine AW.seq ?_
  refine AW.region ?_
  refine se (S.alloc ?_); intro b6
  refine st V.assign ?_
  refine sn ?_
  refine AW.seq ?_
  refine AW.seq ?_
  refine AW.region ?_
  refine st V.move ?_
  refine st V.move ?_
  refine se (S.call ?_)
  refine (r_table_c _ _ Ad cd d hd.upD t).use ?_
  rintro v N G iz ⟨rfl, hG⟩
  obtain rfl := hG.symm
  refine st V.assign ?_
  refine sn ?_
  refine AW.seq ?_
  refine AW.region ?_
  refine st V.move ?_
  refine st V.neq ?_
  refine sn ?_
  refine cond (fun h1 => ?_) (fun h1 => ?_)
  ·
    have k1 := bp h1
    refine AW.seq ?_
    refine AW.region ?_
    refine st (V.build (cells := [.int .i64 0, .int .i64 0, .slice none 0 0]) rfl) ?_
    refine st V.move ?_
    refine se (S.storeA rfl ?_)
    refine st V.assign ?_
    refine sn ?_
    refine AW.ret ?_
    repeat with_reducible first | refine thn_ret ?_ | refine inb_ret ?_
    refine fin (Res.ic2 rfl) ?_
    refine ⟨_, (by repeat first | exact List.Sublist.refl _ | apply List.Sublist.cons), PzR.zero (pa_0 k1), rfl⟩
  ·
    have k1 := bp h1
    refine AW.skip ?_
    refine AW.seq ?_
    refine AW.seq ?_
    refine AW.region ?_
    refine st V.move ?_
    refine st V.lenS ?_
    refine st V.gtr ?_
    refine sn ?_
    refine cond (fun h2 => ?_) (fun h2 => ?_)
    ·
      have k2 := bp h2
      refine AW.seq ?_
      refine AW.region ?_
      refine st (V.build (cells := [.int .i64 0, .int .i64 0, .slice none 0 0]) rfl) ?_
      refine se (S.storeA rfl ?_)
      refine st V.assign ?_
      refine sn ?_
      refine AW.ret ?_
      repeat with_reducible first | refine thn_ret ?_ | refine inb_ret ?_
      refine fin (Res.ic2 rfl) ?_
      refine ⟨_, (by repeat first | exact List.Sublist.refl _ | apply List.Sublist.cons), PzR.zero (pa_1 k1 (by omega)), rfl⟩
    ·
      have k2 := bp h2
      refine AW.skip ?_
      refine AW.seq ?_
      obtain ⟨hc0, ht⟩ := tableF_ok k1
      have hT := (checkF_ok hc0).2.2.2.1
      obtain ⟨hB, hdl⟩ := checkF_bd hc0
      obtain ⟨hN, hu⟩ := names_ok hc0
      refine AW.region ?_
      refine st V.move ?_
      refine st (V.build (cells := [.string s, .int .i64 0, .bool false]) rfl) ?_
      refine se (S.box ?_); intro b26
      refine st V.assign ?_
      refine sn ?_
      refine AW.seq ?_
      refine AW.region ?_
      refine st V.move ?_
      refine se (S.call ?_)
      refine (r_term_c s (by omega) b26 (s.size + 2) (s.size + 1) (by omega) 0 (by omega) (by omega) _ _).use ?_
      rintro v7 N7 G7 iz7 ⟨x, A7, c7, p7, bd7, rfl, hG, hxx, hp7, hb7, hr7⟩
      subst hG
      have hsp := skO_le spP s p7 hp7
      refine se (S.alloc ?_); intro b10
      refine se (S.storeA rfl ?_)
      refine sn ?_
      refine AW.seq ?_
      refine AW.fz 0 fun M10 i10 j10 => ?_
      refine AW.region ?_
      refine st V.move ?_
      refine se (S.call ?_)
      refine (r_spaces_c _ _ b26 s (by omega) bd7 p7 hp7).use ?_
      rintro v8 N8 G8 iz8 ⟨rfl, hG⟩
      subst hG
      refine sn ?_
      refine AW.seq ?_
      refine AW.seq ?_
      refine AW.region ?_
      refine st V.move ?_
      refine st (by first | exact V.nc | exact V.ncF) ?_
      refine st V.faz ?_
      first | refine st V.ld ?_ | refine sq V.lo ?_
      refine st V.move ?_
      refine onoff true rfl rfl (fun h3 => ?_) (fun h3 => ?_)
      ·
        have k3 := bp h3
        refine st V.move ?_
        refine on rfl h3 ?_
        refine st (by first | exact V.nc | exact V.ncF) ?_
        refine on rfl h3 ?_
        refine st V.faz ?_
        refine on rfl h3 ?_
        first | refine st V.ld ?_ | refine sq V.lo ?_
        refine on rfl h3 ?_
        refine st V.move ?_
        refine on rfl h3 ?_
        refine st V.lenS ?_
        refine on rfl h3 ?_
        refine st V.lss ?_
        refine st (V.pF h3) ?_
        refine sn ?_
        refine cond (fun h4 => ?_) (fun h4 => ?_)
        ·
          have k4 := bp h4
          refine AW.seq ?_
          refine AW.region ?_
          refine st (V.build (cells := [.int .i64 0, .int .i64 0, .slice none 0 0]) rfl) ?_
          refine se (S.storeA rfl ?_)
          refine st V.assign ?_
          refine sn ?_
          refine AW.ret ?_
          repeat with_reducible first | refine thn_ret ?_ | refine inb_ret ?_
          refine fin (Res.ic2 rfl) ?_
          refine ⟨_, (by repeat first | exact List.Sublist.refl _ | apply List.Sublist.cons), PzR.zero (pr_4 k1 (by omega) fun x e h => by obtain ⟨rfl, rfl⟩ := hr7 x e h; omega), rfl⟩
        ·
          have k4 := bp h4
          refine AW.skip ?_
          refine AW.seq ?_
          refine AW.seq ?_
          have hrx : rtF s (s.size + 1) 0 = some (x, p7) := by
            cases hq : rtF s (s.size + 1) 0 with
            | none => rw [hq] at hb7; subst hb7; simp_all
            | some q => obtain ⟨t1, e1⟩ := q; obtain ⟨rfl, rfl⟩ := hr7 t1 e1 hq; rfl
          have hpx := pr_x (d := d) (t := t) k1 (by omega) hrx (by omega)
          refine AW.region ?_
          refine st V.move ?_
          first | refine st V.ldA ?_ | refine sq V.loA ?_
          refine se (S.call ?_)
          refine (r_known_c d (SizeOf.sizeOf x + 1) x (by omega) _ _ Ad cd A7 c7 hd.upD (VVT.up hxx)).use ?_
          rintro vk Nk Gk izk ⟨rfl, hG⟩
          obtain rfl := hG.symm
          refine st V.not ?_
          refine sn ?_
          refine cond (fun h5 => ?_) (fun h5 => ?_)
          ·
            have k5 := bp h5
            refine AW.seq ?_
            refine AW.region ?_
            refine st (V.build (cells := [.int .i64 0, .int .i64 0, .slice none 0 0]) rfl) ?_
            refine se (S.storeA rfl ?_)
            refine st V.assign ?_
            refine sn ?_
            refine AW.ret ?_
            repeat with_reducible first | refine thn_ret ?_ | refine inb_ret ?_
            refine fin (Res.ic2 rfl) ?_
            refine ⟨_, (by repeat first | exact List.Sublist.refl _ | apply List.Sublist.cons), PzR.zero (by rw [hpx, if_pos (by simp_all)]), rfl⟩
          ·
            have k5 := bp h5
            refine AW.skip ?_
            refine AW.seq ?_
            refine AW.region ?_
            refine st V.move ?_
            refine st V.move ?_
            first | refine st V.ldA ?_ | refine sq V.loA ?_
            refine se (S.call ?_)
            refine (r_build_c d hT hB hN hu (SizeOf.sizeOf x + 1) x (by omega) t ht _ _ Ad cd A7 c7 hd.upD (VVT.up hxx)).use ?_
            rintro vb Nb Gb izb ⟨⟨n8, k8, Ay, l8, cy, ok8, rfl, ho8, hw8⟩, hG⟩
            obtain rfl := hG.symm
            refine st V.move ?_
            refine st V.ext ?_
            refine st V.ext ?_
            refine se (S.alloc ?_); intro b11
            refine se (S.storeA rfl ?_)
            refine st V.assign ?_
            refine sn ?_
            refine AW.seq ?_
            refine AW.seq ?_
            refine AW.region ?_
            refine st V.move ?_
            refine st V.not ?_
            refine sn ?_
            refine cond (fun h6 => ?_) (fun h6 => ?_)
            ·
              have k6 := bp h6
              refine AW.seq ?_
              refine AW.region ?_
              refine st (V.build (cells := [.int .i64 0, .int .i64 0, .slice none 0 0]) rfl) ?_
              refine se (S.storeA rfl ?_)
              refine st V.assign ?_
              refine sn ?_
              refine AW.ret ?_
              repeat with_reducible first | refine thn_ret ?_ | refine inb_ret ?_
              refine fin (Res.ic2 rfl) ?_
              refine ⟨_, (by repeat first | exact List.Sublist.refl _ | apply List.Sublist.cons), PzR.zero (by rw [hpx, if_neg (by simp_all)]; cases hq : bdV d t x with | none => rfl | some v => (rw [hq] at ho8; subst ho8; simp_all)), rfl⟩
            ·
              have k6 := bp h6
              refine AW.skip ?_
              refine AW.seq ?_
              refine AW.region ?_
              first | refine st V.ldA ?_ | refine sq V.loA ?_
              refine se (S.storeA rfl ?_)
              refine st V.assign ?_
              refine sn ?_
              refine AW.ret ?_
              repeat with_reducible first | refine thn_ret ?_ | refine inb_ret ?_
              refine fin (Res.ic2 rfl) ?_
              obtain ⟨v, hv⟩ : ∃ v, bdV d t x = some v := Option.isSome_iff_exists.1 (by rw [← ho8]; simp_all)
              obtain ⟨rfl, rfl, rfl, hvv⟩ := hw8 v hv
              have e9 : parseF d t s = (v, 0) := by rw [hpx, if_neg (by simp_all), hv]
              rw [e9]
              refine ⟨_, (by repeat first | exact List.Sublist.refl _ | apply List.Sublist.cons), ⟨_, _, rfl, VV.up hvv⟩, rfl⟩
      ·
        have k3 := bp h3
        refine off rfl h3 ?_
        refine off rfl h3 ?_
        refine off rfl h3 ?_
        refine off rfl h3 ?_
        refine off rfl h3 ?_
        refine off rfl h3 ?_
        refine st (V.pT h3) ?_
        refine sn ?_
        refine cond (fun _ => ?_) (fun h => by cases h)
        refine AW.seq ?_
        refine AW.region ?_
        refine st (V.build (cells := [.int .i64 0, .int .i64 0, .slice none 0 0]) rfl) ?_
        refine se (S.storeA rfl ?_)
        refine st V.assign ?_
        refine sn ?_
        refine AW.ret ?_
        repeat with_reducible first | refine thn_ret ?_ | refine inb_ret ?_
        refine fin (Res.ic2 rfl) ?_
        refine ⟨_, (by repeat first | exact List.Sublist.refl _ | apply List.Sublist.cons), PzR.zero (pr_4 k1 (by omega) fun x e h => by rw [h] at hb7; subst hb7; simp_all), rfl⟩
end Go.Proofs.YtieaiheejhmbfaaGreatDoor.ML
