/- Walks of functions of the program, in the abstract layer. No conditions. -/
import Derived.Test.YtieaiheejhmbfaaGreatDoorPk10
namespace Go.Proofs.YtieaiheejhmbfaaGreatDoor.ML
open Go.RowKit
set_option linter.unusedVariables false
set_option linter.unusedSimpArgs false
set_option maxHeartbeats 1600000 in
set_option synthInstance.maxHeartbeats 400000 in
set_option synthInstance.maxSize 100000 in
set_option maxRecDepth 100000 in
theorem r_formed_c (M : Mem) (H : Heap) (A : Option Addr) (c : Nat) (d : List DT) (hd : RdS 2 (RdD M) A c d) :
    AC Tryz.prog 63 [.slice A d.length c] M H fun v _ H' => v = .bool (tt (FormedP d)) ∧ H' = H := by
  refine AC.of (n := 99) Tryz.func63 rfl rfl ?_
  dsimp only [List.replicate, List.cons_append, List.nil_append]
  refine AW.seq ?_
  refine AW.region ?_
  refine st V.assign ?_
  refine sn ?_
  refine AW.seq ?_
  refine AW.seq ?_
  refine AW.region ?_
  refine st V.move ?_
  refine st V.len ?_
  refine st V.eql ?_
  refine st V.move ?_
  refine onoff true rfl rfl (fun h1 => ?_) (fun h1 => ?_)
  ·
    have k1 := bp h1
    have hbd := hd.bd
    have z0 : 0 < d.length := by omega
    obtain ⟨b, o, hA, e0, eb, A', c', e1, e2⟩ := hd.at 0 z0
    refine st V.move ?_
    refine on rfl h1 ?_
    refine st (V.ib 0 rfl z0 hA) ?_
    refine on rfl h1 ?_
    refine st V.fa0 ?_
    refine on rfl h1 ?_
    first | refine st V.ld ?_ | refine sq V.lo ?_
    refine on rfl h1 ?_
    refine st V.nes ?_
    refine st (V.pF h1) ?_
    refine st V.move ?_
    refine onoff true rfl rfl (fun h2 => ?_) (fun h2 => ?_)
    ·
      have k2 := bp h2
      refine st V.move ?_
      refine on rfl h2 ?_
      refine st (V.ib 0 rfl z0 hA) ?_
      refine on rfl h2 ?_
      refine st V.fa ?_
      refine on rfl h2 ?_
      first | refine st V.ld ?_ | refine sq V.lo ?_
      refine on rfl h2 ?_
      refine st V.len ?_
      refine on rfl h2 ?_
      refine st V.neq ?_
      refine st (V.pF h2) ?_
      refine sn ?_
      refine cond (fun h3 => ?_) (fun h3 => ?_)
      ·
        have k3 := bp h3
        refine AW.seq ?_
        refine AW.region ?_
        refine st V.assign ?_
        refine sn ?_
        refine AW.ret ?_
        repeat with_reducible first | refine thn_ret ?_ | refine inb_ret ?_
        refine fin (Res.i1 rfl) ?_
        exact ⟨_, (by repeat first | exact List.Sublist.refl _ | apply List.Sublist.cons), by first | contradiction | exact tt_t ⟨z0, ‹_›, by omega, by assumption, by assumption, by omega, fun j h => hall j h (by omega)⟩ | exact tt_f fun ⟨a0, a1, a2, a3, a4, a5, a6⟩ => by first | omega | contradiction | (obtain ⟨x1, x2, x3⟩ := a6 i (by omega); first | omega | (rw [List.any_eq_false] at x3; have x4 := x3 _ (List.getElem_mem z7); simp_all) | simp_all), rfl⟩
      ·
        have k3 := bp h3
        refine AW.skip ?_
        refine AW.seq ?_
        have z2 : d[0].cons.length = 2 := by omega
        obtain ⟨b0, o0, hA0, f0, fb0, B0, K0, f1, f2⟩ := e2.at 0 (by omega)
        obtain ⟨b1, o1, hA1, g0, gb1, B1, K1, g1, g2⟩ := e2.at 1 (by omega)
        have hb0 := f2.bd
        have hb1 := g2.bd
        refine AW.regionD2 mx 12 13 [0, 1, 2, 3, 4, 5, 6, 7, 8, 9, 10, 11, 12, 13, 14, 15] [0, 1, 2, 3, 4, 5, 6, 7, 8, 9, 10, 11, 13, 12, 14, 15] [[], [0], [0, 1], [0, 1, 2], [0, 1, 2, 3], [0, 1, 2, 3, 4], [], [6], [6, 7], [6, 7, 8], [6, 7, 8, 9], [6, 7, 8, 9, 10], [], [], [0, 1, 2, 3, 4, 5, 12, 13], [0, 1, 2, 3, 4, 5, 6, 7, 8, 9, 10, 11, 12, 13, 14]] (by kernel_rfl) ?_ ?_
        ·
          refine D.p rfl rfl V.move ?_
          refine D.p rfl rfl (V.ib 0 rfl z0 hA) ?_
          refine D.p rfl rfl V.fa ?_
          refine D.p rfl rfl V.ld ?_
          refine D.p rfl rfl (V.ib 0 rfl (by omega) hA0) ?_
          refine D.p rfl rfl V.ldA ?_
          refine D.p rfl rfl V.move ?_
          refine D.p rfl rfl (V.ib 0 rfl z0 hA) ?_
          refine D.p rfl rfl V.fa ?_
          refine D.p rfl rfl V.ld ?_
          refine D.p rfl rfl (V.ib 1 rfl (by omega) hA1) ?_
          refine D.p rfl rfl V.ldA ?_
          refine D.e rfl rfl (S.alloc ?_); intro b3
          refine D.e rfl rfl (S.alloc ?_); intro b4
          refine D.e rfl rfl (S.storeA rfl ?_)
          refine D.e rfl rfl (S.storeA rfl ?_)
          refine D.nl ?_
          refine AW.seq ?_
          refine AW.seq ?_
          refine AW.region ?_
          refine st V.fa0 ?_
          first | refine st V.ld ?_ | refine sq V.lo ?_
          refine st V.nes ?_
          refine st V.move ?_
          refine onoff true rfl rfl (fun h4 => ?_) (fun h4 => ?_)
          ·
            have k4 := bp h4
            refine st V.fa0 ?_
            refine on rfl h4 ?_
            first | refine st V.ld ?_ | refine sq V.lo ?_
            refine on rfl h4 ?_
            refine st V.nes ?_
            refine st (V.pF h4) ?_
            refine st V.move ?_
            refine onoff true rfl rfl (fun h5 => ?_) (fun h5 => ?_)
            ·
              have k5 := bp h5
              refine st V.faz ?_
              refine on rfl h5 ?_
              first | refine st V.ld ?_ | refine sq V.lo ?_
              refine on rfl h5 ?_
              refine st V.len ?_
              refine on rfl h5 ?_
              refine st V.gtr ?_
              refine st (V.pF h5) ?_
              refine st V.move ?_
              refine onoff true rfl rfl (fun h6 => ?_) (fun h6 => ?_)
              ·
                have k6 := bp h6
                refine st V.faz ?_
                refine on rfl h6 ?_
                first | refine st V.ld ?_ | refine sq V.lo ?_
                refine on rfl h6 ?_
                refine st V.len ?_
                refine on rfl h6 ?_
                refine st V.gtr ?_
                refine st (V.pF h6) ?_
                refine sn ?_
                refine cond (fun h7 => ?_) (fun h7 => ?_)
                ·
                  have k7 := bp h7
                  refine AW.seq ?_
                  refine AW.region ?_
                  refine st V.assign ?_
                  refine sn ?_
                  refine AW.ret ?_
                  repeat with_reducible first | refine thn_ret ?_ | refine inb_ret ?_
                  refine fin (Res.i1 rfl) ?_
                  exact ⟨_, (by repeat first | exact List.Sublist.refl _ | apply List.Sublist.cons), by first | contradiction | exact tt_t ⟨z0, ‹_›, by omega, by assumption, by assumption, by omega, fun j h => hall j h (by omega)⟩ | exact tt_f fun ⟨a0, a1, a2, a3, a4, a5, a6⟩ => by first | omega | contradiction | (obtain ⟨x1, x2, x3⟩ := a6 i (by omega); first | omega | (rw [List.any_eq_false] at x3; have x4 := x3 _ (List.getElem_mem z7); simp_all) | simp_all), rfl⟩
                ·
                  have k7 := bp h7
                  refine AW.skip ?_
                  refine AW.seq ?_
                  refine AW.seq ?_
                  refine AW.region ?_
                  refine st V.assign ?_
                  refine sn ?_
                  refine AW.block ?_
                  refine AW.drop (H' := H) (by repeat first | exact List.Sublist.refl _ | apply List.Sublist.cons) ?_
                  refine AW.loopL [5] (2 :: 6 :: 57 :: 58 :: 59 :: 60 :: 61 :: 62 :: 63 :: 64 :: 65 :: 66 :: 67 :: 68 :: 69 :: 70 :: 71 :: 72 :: 73 :: 74 :: 75 :: 76 :: 77 :: 78 :: 79 :: 80 :: 81 :: 82 :: 83 :: 84 :: 85 :: 86 :: 87 :: 88 :: 89 :: 90 :: 91 :: 92 :: 93 :: 94 :: 95 :: 96 :: 97 :: 98 :: 99 :: []) (fun n vs M' H' => ∃ i : Nat, vs = [.int .i64 (i : Int)] ∧ H' = H ∧ i + n = d.length ∧ (∀ j (h : j < d.length), j < i → OkD d[j])) (d.length) (⟨0, rfl, rfl, by omega, fun j _ h => by omega⟩) ?_
                  intro n Ml Hl iL u5 hI u2 u6 u57 u58 u59 u60 u61 u62 u63 u64 u65 u66 u67 u68 u69 u70 u71 u72 u73 u74 u75 u76 u77 u78 u79 u80 u81 u82 u83 u84 u85 u86 u87 u88 u89 u90 u91 u92 u93 u94 u95 u96 u97 u98 u99
                  obtain ⟨i, hv, hH, hi, hall⟩ := hI
                  obtain rfl := hH.symm
                  cases hv
                  refine sa ?_
                  refine AW.seq ?_
                  refine AW.seq ?_
                  refine AW.region ?_
                  refine st V.move ?_
                  refine st V.move ?_
                  refine st V.len ?_
                  refine st V.lss ?_
                  refine sn ?_
                  refine cond (fun h8 => ?_) (fun h8 => ?_)
                  ·
                    have k8 := bp h8
                    refine AW.skip ?_
                    refine AW.seq ?_
                    refine AW.block ?_
                    refine AW.seq ?_
                    refine AW.seq ?_
                    have z4 : i < d.length := by omega
                    obtain ⟨b8, o8, hA8, i0, ib0, A8, c8, i1, i2⟩ := (hd.upD (M' := Ml)).at i z4
                    have hbd2 := i2.bd
                    refine AW.region ?_
                    refine st V.move ?_
                    refine st V.move ?_
                    refine st (V.ib i rfl z4 hA8) ?_
                    refine st V.fa0 ?_
                    first | refine st V.ld ?_ | refine sq V.lo ?_
                    refine se (S.call ?_)
                    refine (r_name_c _ _ _ ib0).use ?_
                    rintro v N G iz ⟨rfl, hG⟩
                    obtain rfl := hG.symm
                    refine st V.not ?_
                    refine st V.move ?_
                    refine onoff true rfl rfl (fun h9 => ?_) (fun h9 => ?_)
                    ·
                      have k9 := bp h9
                      refine st V.move ?_
                      refine on rfl h9 ?_
                      refine st V.move ?_
                      refine on rfl h9 ?_
                      refine st (V.ib i rfl z4 hA8) ?_
                      refine on rfl h9 ?_
                      refine st V.fa ?_
                      refine on rfl h9 ?_
                      first | refine st V.ld ?_ | refine sq V.lo ?_
                      refine on rfl h9 ?_
                      refine st V.len ?_
                      refine on rfl h9 ?_
                      refine st V.eql ?_
                      refine st (V.pF h9) ?_
                      refine sn ?_
                      refine cond (fun h10 => ?_) (fun h10 => ?_)
                      ·
                        have k10 := bp h10
                        refine AW.seq ?_
                        refine AW.region ?_
                        refine st V.assign ?_
                        refine sn ?_
                        refine AW.ret ?_
                        repeat with_reducible first | refine thn_ret ?_ | refine inb_ret ?_
                        refine fin (Res.i1 rfl) ?_
                        exact ⟨_, (by repeat first | exact List.Sublist.refl _ | apply List.Sublist.cons), by first | contradiction | exact tt_t ⟨z0, ‹_›, by omega, by assumption, by assumption, by omega, fun j h => hall j h (by omega)⟩ | exact tt_f fun ⟨a0, a1, a2, a3, a4, a5, a6⟩ => by first | omega | contradiction | (obtain ⟨x1, x2, x3⟩ := a6 i (by omega); first | omega | (rw [List.any_eq_false] at x3; have x4 := x3 _ (List.getElem_mem z7); simp_all) | simp_all), rfl⟩
                      ·
                        have k10 := bp h10
                        refine AW.skip ?_
                        refine AW.seq ?_
                        have hnm : nameF d[i].name = true := by assumption
                        refine AW.region ?_
                        refine st V.assign ?_
                        refine sn ?_
                        refine AW.block ?_
                        refine AW.loopL [6] (2 :: 79 :: 80 :: 81 :: 82 :: 83 :: 84 :: 85 :: 86 :: 87 :: 88 :: 89 :: 90 :: 91 :: 92 :: 93 :: 94 :: 95 :: 96 :: 97 :: 98 :: 99 :: []) (fun n vs M' H' => ∃ j : Nat, vs = [.int .i64 (j : Int)] ∧ H' = H ∧ j + n = d[i].cons.length ∧ (∀ k (h : k < d[i].cons.length), k < j → nameF d[i].cons[k].name = true)) (d[i].cons.length) (⟨0, rfl, rfl, by omega, fun k _ h => by omega⟩) ?_
                        intro n1 Ml1 Hl1 iL1 u6 hI1 u2 u79 u80 u81 u82 u83 u84 u85 u86 u87 u88 u89 u90 u91 u92 u93 u94 u95 u96 u97 u98 u99
                        obtain ⟨j, hv, hH, hj, hall1⟩ := hI1
                        obtain rfl := hH.symm
                        cases hv
                        refine sa ?_
                        refine AW.seq ?_
                        refine AW.seq ?_
                        refine AW.region ?_
                        refine st V.move ?_
                        refine st V.move ?_
                        refine st V.move ?_
                        refine st (V.ib i rfl z4 hA8) ?_
                        refine st V.fa ?_
                        first | refine st V.ld ?_ | refine sq V.lo ?_
                        refine st V.len ?_
                        refine st V.lss ?_
                        refine sn ?_
                        refine cond (fun h11 => ?_) (fun h11 => ?_)
                        ·
                          have k11 := bp h11
                          refine AW.skip ?_
                          refine AW.seq ?_
                          refine AW.block ?_
                          refine AW.seq ?_
                          have z7 : j < d[i].cons.length := by omega
                          obtain ⟨b7, o7, hA7, j0, jb0, A7, c7, q1, q2⟩ := (i2.upC (M' := Ml1)).at j z7
                          refine AW.region ?_
                          refine st V.move ?_
                          refine st V.move ?_
                          refine st (V.ib i rfl z4 hA8) ?_
                          refine st V.fa ?_
                          first | refine st V.ld ?_ | refine sq V.lo ?_
                          refine st V.move ?_
                          refine st (V.ib j rfl z7 hA7) ?_
                          refine st V.fa0 ?_
                          first | refine st V.ld ?_ | refine sq V.lo ?_
                          refine se (S.call ?_)
                          refine (r_name_c _ _ _ jb0).use ?_
                          rintro v9 N9 G9 iz9 ⟨rfl, hG⟩
                          obtain rfl := hG.symm
                          refine st V.not ?_
                          refine sn ?_
                          refine cond (fun h12 => ?_) (fun h12 => ?_)
                          ·
                            have k12 := bp h12
                            refine AW.seq ?_
                            refine AW.region ?_
                            refine st V.assign ?_
                            refine sn ?_
                            refine AW.ret ?_
                            repeat with_reducible first | refine thn_ret ?_ | refine inb_ret ?_
                            refine fin (Res.i1 rfl) ?_
                            exact ⟨_, (by repeat first | exact List.Sublist.refl _ | apply List.Sublist.cons), by first | contradiction | exact tt_t ⟨z0, ‹_›, by omega, by assumption, by assumption, by omega, fun j h => hall j h (by omega)⟩ | exact tt_f fun ⟨a0, a1, a2, a3, a4, a5, a6⟩ => by first | omega | contradiction | (obtain ⟨x1, x2, x3⟩ := a6 i (by omega); first | omega | (rw [List.any_eq_false] at x3; have x4 := x3 _ (List.getElem_mem z7); simp_all) | simp_all), rfl⟩
                          ·
                            have k12 := bp h12
                            refine AW.skip ?_
                            refine AW.region ?_
                            refine st V.move ?_
                            refine st (V.add64 (by omega)) ?_
                            refine st V.assign ?_
                            refine sn ?_
                            repeat with_reducible refine inb_normal ?_
                            refine thn_normal ?_
                            refine rnd (n1 - 1) _ (by omega) (List.Sublist.refl _) ⟨j + 1, by simp, rfl, by omega, fun k hk hkj => ?_⟩
                            rcases Nat.lt_or_ge k j with h | h
                            · exact hall1 k hk h
                            · obtain rfl : k = j := by omega
                              assumption
                        ·
                          have k11 := bp h11
                          refine AW.exit ?_
                          repeat with_reducible refine thn_exit ?_
                          refine inb_exit ?_
                          refine AW.region ?_
                          refine st V.move ?_
                          refine st (V.add64 (by omega)) ?_
                          refine st V.assign ?_
                          refine sn ?_
                          repeat with_reducible refine inb_normal ?_
                          refine thn_normal ?_
                          refine rnd (n - 1) _ (by omega) (List.Sublist.refl _) ⟨i + 1, by simp, rfl, by omega, fun k hk hki => ?_⟩
                          rcases Nat.lt_or_ge k i with h | h
                          · exact hall k hk h
                          · obtain rfl : k = i := by omega
                            exact ⟨hnm, by omega, any_none fun j' hj' => by rw [hall1 j' hj' (by omega)]; rfl⟩
                    ·
                      have k9 := bp h9
                      refine off rfl h9 ?_
                      refine off rfl h9 ?_
                      refine off rfl h9 ?_
                      refine off rfl h9 ?_
                      refine off rfl h9 ?_
                      refine off rfl h9 ?_
                      refine st (V.pT h9) ?_
                      refine sn ?_
                      refine cond (fun _ => ?_) (fun h => by cases h)
                      refine AW.seq ?_
                      refine AW.region ?_
                      refine st V.assign ?_
                      refine sn ?_
                      refine AW.ret ?_
                      repeat with_reducible first | refine thn_ret ?_ | refine inb_ret ?_
                      refine fin (Res.i1 rfl) ?_
                      exact ⟨_, (by repeat first | exact List.Sublist.refl _ | apply List.Sublist.cons), by first | contradiction | exact tt_t ⟨z0, ‹_›, by omega, by assumption, by assumption, by omega, fun j h => hall j h (by omega)⟩ | exact tt_f fun ⟨a0, a1, a2, a3, a4, a5, a6⟩ => by first | omega | contradiction | (obtain ⟨x1, x2, x3⟩ := a6 i (by omega); first | omega | (rw [List.any_eq_false] at x3; have x4 := x3 _ (List.getElem_mem z7); simp_all) | simp_all), rfl⟩
                  ·
                    have k8 := bp h8
                    refine AW.exit ?_
                    repeat with_reducible refine thn_exit ?_
                    refine inb_exit ?_
                    refine AW.seq ?_
                    refine AW.region ?_
                    refine st V.assign ?_
                    refine sn ?_
                    refine AW.ret ?_
                    repeat with_reducible first | refine thn_ret ?_ | refine inb_ret ?_
                    refine fin (Res.i1 rfl) ?_
                    exact ⟨_, (by repeat first | exact List.Sublist.refl _ | apply List.Sublist.cons), by first | contradiction | exact tt_t ⟨z0, ‹_›, by omega, by assumption, by assumption, by omega, fun j h => hall j h (by omega)⟩ | exact tt_f fun ⟨a0, a1, a2, a3, a4, a5, a6⟩ => by first | omega | contradiction | (obtain ⟨x1, x2, x3⟩ := a6 i (by omega); first | omega | (rw [List.any_eq_false] at x3; have x4 := x3 _ (List.getElem_mem z7); simp_all) | simp_all), rfl⟩
              ·
                have k6 := bp h6
                refine off rfl h6 ?_
                refine off rfl h6 ?_
                refine off rfl h6 ?_
                refine st (V.pT h6) ?_
                refine sn ?_
                refine cond (fun _ => ?_) (fun h => by cases h)
                refine AW.seq ?_
                refine AW.region ?_
                refine st V.assign ?_
                refine sn ?_
                refine AW.ret ?_
                repeat with_reducible first | refine thn_ret ?_ | refine inb_ret ?_
                refine fin (Res.i1 rfl) ?_
                exact ⟨_, (by repeat first | exact List.Sublist.refl _ | apply List.Sublist.cons), by first | contradiction | exact tt_t ⟨z0, ‹_›, by omega, by assumption, by assumption, by omega, fun j h => hall j h (by omega)⟩ | exact tt_f fun ⟨a0, a1, a2, a3, a4, a5, a6⟩ => by first | omega | contradiction | (obtain ⟨x1, x2, x3⟩ := a6 i (by omega); first | omega | (rw [List.any_eq_false] at x3; have x4 := x3 _ (List.getElem_mem z7); simp_all) | simp_all), rfl⟩
            ·
              have k5 := bp h5
              refine off rfl h5 ?_
              refine off rfl h5 ?_
              refine off rfl h5 ?_
              refine st (V.pT h5) ?_
              refine st V.move ?_
              refine off rfl rfl ?_
              refine off rfl rfl ?_
              refine off rfl rfl ?_
              refine off rfl rfl ?_
              refine st (V.pT rfl) ?_
              refine sn ?_
              refine cond (fun _ => ?_) (fun h => by cases h)
              refine AW.seq ?_
              refine AW.region ?_
              refine st V.assign ?_
              refine sn ?_
              refine AW.ret ?_
              repeat with_reducible first | refine thn_ret ?_ | refine inb_ret ?_
              refine fin (Res.i1 rfl) ?_
              exact ⟨_, (by repeat first | exact List.Sublist.refl _ | apply List.Sublist.cons), by first | contradiction | exact tt_t ⟨z0, ‹_›, by omega, by assumption, by assumption, by omega, fun j h => hall j h (by omega)⟩ | exact tt_f fun ⟨a0, a1, a2, a3, a4, a5, a6⟩ => by first | omega | contradiction | (obtain ⟨x1, x2, x3⟩ := a6 i (by omega); first | omega | (rw [List.any_eq_false] at x3; have x4 := x3 _ (List.getElem_mem z7); simp_all) | simp_all), rfl⟩
          ·
            have k4 := bp h4
            refine off rfl h4 ?_
            refine off rfl h4 ?_
            refine st (V.pT h4) ?_
            refine st V.move ?_
            refine off rfl rfl ?_
            refine off rfl rfl ?_
            refine off rfl rfl ?_
            refine off rfl rfl ?_
            refine st (V.pT rfl) ?_
            refine st V.move ?_
            refine off rfl rfl ?_
            refine off rfl rfl ?_
            refine off rfl rfl ?_
            refine off rfl rfl ?_
            refine st (V.pT rfl) ?_
            refine sn ?_
            refine cond (fun _ => ?_) (fun h => by cases h)
            refine AW.seq ?_
            refine AW.region ?_
            refine st V.assign ?_
            refine sn ?_
            refine AW.ret ?_
            repeat with_reducible first | refine thn_ret ?_ | refine inb_ret ?_
            refine fin (Res.i1 rfl) ?_
            exact ⟨_, (by repeat first | exact List.Sublist.refl _ | apply List.Sublist.cons), by first | contradiction | exact tt_t ⟨z0, ‹_›, by omega, by assumption, by assumption, by omega, fun j h => hall j h (by omega)⟩ | exact tt_f fun ⟨a0, a1, a2, a3, a4, a5, a6⟩ => by first | omega | contradiction | (obtain ⟨x1, x2, x3⟩ := a6 i (by omega); first | omega | (rw [List.any_eq_false] at x3; have x4 := x3 _ (List.getElem_mem z7); simp_all) | simp_all), rfl⟩
        ·
          refine D.p rfl rfl V.move ?_
          refine D.p rfl rfl (V.ib 0 rfl z0 hA) ?_
          refine D.p rfl rfl V.fa ?_
          refine D.p rfl rfl V.ld ?_
          refine D.p rfl rfl (V.ib 0 rfl (by omega) hA0) ?_
          refine D.p rfl rfl V.ldA ?_
          refine D.p rfl rfl V.move ?_
          refine D.p rfl rfl (V.ib 0 rfl z0 hA) ?_
          refine D.p rfl rfl V.fa ?_
          refine D.p rfl rfl V.ld ?_
          refine D.p rfl rfl (V.ib 1 rfl (by omega) hA1) ?_
          refine D.p rfl rfl V.ldA ?_
          refine D.e rfl rfl (S.alloc ?_); intro b4
          refine D.e rfl rfl (S.alloc ?_); intro b3
          refine D.e rfl rfl (S.storeA rfl ?_)
          refine D.e rfl rfl (S.storeA rfl ?_)
          refine D.nl ?_
          refine AW.seq ?_
          refine AW.seq ?_
          refine AW.region ?_
          refine st V.fa0 ?_
          first | refine st V.ld ?_ | refine sq V.lo ?_
          refine st V.nes ?_
          refine st V.move ?_
          refine onoff true rfl rfl (fun h17 => ?_) (fun h17 => ?_)
          ·
            have k17 := bp h17
            refine st V.fa0 ?_
            refine on rfl h17 ?_
            first | refine st V.ld ?_ | refine sq V.lo ?_
            refine on rfl h17 ?_
            refine st V.nes ?_
            refine st (V.pF h17) ?_
            refine st V.move ?_
            refine onoff true rfl rfl (fun h18 => ?_) (fun h18 => ?_)
            ·
              have k18 := bp h18
              refine st V.faz ?_
              refine on rfl h18 ?_
              first | refine st V.ld ?_ | refine sq V.lo ?_
              refine on rfl h18 ?_
              refine st V.len ?_
              refine on rfl h18 ?_
              refine st V.gtr ?_
              refine st (V.pF h18) ?_
              refine st V.move ?_
              refine onoff true rfl rfl (fun h19 => ?_) (fun h19 => ?_)
              ·
                have k19 := bp h19
                refine st V.faz ?_
                refine on rfl h19 ?_
                first | refine st V.ld ?_ | refine sq V.lo ?_
                refine on rfl h19 ?_
                refine st V.len ?_
                refine on rfl h19 ?_
                refine st V.gtr ?_
                refine st (V.pF h19) ?_
                refine sn ?_
                refine cond (fun h20 => ?_) (fun h20 => ?_)
                ·
                  have k20 := bp h20
                  refine AW.seq ?_
                  refine AW.region ?_
                  refine st V.assign ?_
                  refine sn ?_
                  refine AW.ret ?_
                  repeat with_reducible first | refine thn_ret ?_ | refine inb_ret ?_
                  refine fin (Res.i1 rfl) ?_
                  exact ⟨_, (by repeat first | exact List.Sublist.refl _ | apply List.Sublist.cons), by first | contradiction | exact tt_t ⟨z0, ‹_›, by omega, by assumption, by assumption, by omega, fun j h => hall j h (by omega)⟩ | exact tt_f fun ⟨a0, a1, a2, a3, a4, a5, a6⟩ => by first | omega | contradiction | (obtain ⟨x1, x2, x3⟩ := a6 i (by omega); first | omega | (rw [List.any_eq_false] at x3; have x4 := x3 _ (List.getElem_mem z7); simp_all) | simp_all), rfl⟩
                ·
                  have k20 := bp h20
                  refine AW.skip ?_
                  refine AW.seq ?_
                  refine AW.seq ?_
                  refine AW.region ?_
                  refine st V.assign ?_
                  refine sn ?_
                  refine AW.block ?_
                  refine AW.drop (H' := H) (by repeat first | exact List.Sublist.refl _ | apply List.Sublist.cons) ?_
                  refine AW.loopL [5] (2 :: 6 :: 57 :: 58 :: 59 :: 60 :: 61 :: 62 :: 63 :: 64 :: 65 :: 66 :: 67 :: 68 :: 69 :: 70 :: 71 :: 72 :: 73 :: 74 :: 75 :: 76 :: 77 :: 78 :: 79 :: 80 :: 81 :: 82 :: 83 :: 84 :: 85 :: 86 :: 87 :: 88 :: 89 :: 90 :: 91 :: 92 :: 93 :: 94 :: 95 :: 96 :: 97 :: 98 :: 99 :: []) (fun n vs M' H' => ∃ i : Nat, vs = [.int .i64 (i : Int)] ∧ H' = H ∧ i + n = d.length ∧ (∀ j (h : j < d.length), j < i → OkD d[j])) (d.length) (⟨0, rfl, rfl, by omega, fun j _ h => by omega⟩) ?_
                  intro n Ml Hl iL u5 hI u2 u6 u57 u58 u59 u60 u61 u62 u63 u64 u65 u66 u67 u68 u69 u70 u71 u72 u73 u74 u75 u76 u77 u78 u79 u80 u81 u82 u83 u84 u85 u86 u87 u88 u89 u90 u91 u92 u93 u94 u95 u96 u97 u98 u99
                  obtain ⟨i, hv, hH, hi, hall⟩ := hI
                  obtain rfl := hH.symm
                  cases hv
                  refine sa ?_
                  refine AW.seq ?_
                  refine AW.seq ?_
                  refine AW.region ?_
                  refine st V.move ?_
                  refine st V.move ?_
                  refine st V.len ?_
                  refine st V.lss ?_
                  refine sn ?_
                  refine cond (fun h21 => ?_) (fun h21 => ?_)
                  ·
                    have k21 := bp h21
                    refine AW.skip ?_
                    refine AW.seq ?_
                    refine AW.block ?_
                    refine AW.seq ?_
                    refine AW.seq ?_
                    have z4 : i < d.length := by omega
                    obtain ⟨b8, o8, hA8, i0, ib0, A8, c8, i1, i2⟩ := (hd.upD (M' := Ml)).at i z4
                    have hbd2 := i2.bd
                    refine AW.region ?_
                    refine st V.move ?_
                    refine st V.move ?_
                    refine st (V.ib i rfl z4 hA8) ?_
                    refine st V.fa0 ?_
                    first | refine st V.ld ?_ | refine sq V.lo ?_
                    refine se (S.call ?_)
                    refine (r_name_c _ _ _ ib0).use ?_
                    rintro v N G iz ⟨rfl, hG⟩
                    obtain rfl := hG.symm
                    refine st V.not ?_
                    refine st V.move ?_
                    refine onoff true rfl rfl (fun h22 => ?_) (fun h22 => ?_)
                    ·
                      have k22 := bp h22
                      refine st V.move ?_
                      refine on rfl h22 ?_
                      refine st V.move ?_
                      refine on rfl h22 ?_
                      refine st (V.ib i rfl z4 hA8) ?_
                      refine on rfl h22 ?_
                      refine st V.fa ?_
                      refine on rfl h22 ?_
                      first | refine st V.ld ?_ | refine sq V.lo ?_
                      refine on rfl h22 ?_
                      refine st V.len ?_
                      refine on rfl h22 ?_
                      refine st V.eql ?_
                      refine st (V.pF h22) ?_
                      refine sn ?_
                      refine cond (fun h23 => ?_) (fun h23 => ?_)
                      ·
                        have k23 := bp h23
                        refine AW.seq ?_
                        refine AW.region ?_
                        refine st V.assign ?_
                        refine sn ?_
                        refine AW.ret ?_
                        repeat with_reducible first | refine thn_ret ?_ | refine inb_ret ?_
                        refine fin (Res.i1 rfl) ?_
                        exact ⟨_, (by repeat first | exact List.Sublist.refl _ | apply List.Sublist.cons), by first | contradiction | exact tt_t ⟨z0, ‹_›, by omega, by assumption, by assumption, by omega, fun j h => hall j h (by omega)⟩ | exact tt_f fun ⟨a0, a1, a2, a3, a4, a5, a6⟩ => by first | omega | contradiction | (obtain ⟨x1, x2, x3⟩ := a6 i (by omega); first | omega | (rw [List.any_eq_false] at x3; have x4 := x3 _ (List.getElem_mem z7); simp_all) | simp_all), rfl⟩
                      ·
                        have k23 := bp h23
                        refine AW.skip ?_
                        refine AW.seq ?_
                        have hnm : nameF d[i].name = true := by assumption
                        refine AW.region ?_
                        refine st V.assign ?_
                        refine sn ?_
                        refine AW.block ?_
                        refine AW.loopL [6] (2 :: 79 :: 80 :: 81 :: 82 :: 83 :: 84 :: 85 :: 86 :: 87 :: 88 :: 89 :: 90 :: 91 :: 92 :: 93 :: 94 :: 95 :: 96 :: 97 :: 98 :: 99 :: []) (fun n vs M' H' => ∃ j : Nat, vs = [.int .i64 (j : Int)] ∧ H' = H ∧ j + n = d[i].cons.length ∧ (∀ k (h : k < d[i].cons.length), k < j → nameF d[i].cons[k].name = true)) (d[i].cons.length) (⟨0, rfl, rfl, by omega, fun k _ h => by omega⟩) ?_
                        intro n1 Ml1 Hl1 iL1 u6 hI1 u2 u79 u80 u81 u82 u83 u84 u85 u86 u87 u88 u89 u90 u91 u92 u93 u94 u95 u96 u97 u98 u99
                        obtain ⟨j, hv, hH, hj, hall1⟩ := hI1
                        obtain rfl := hH.symm
                        cases hv
                        refine sa ?_
                        refine AW.seq ?_
                        refine AW.seq ?_
                        refine AW.region ?_
                        refine st V.move ?_
                        refine st V.move ?_
                        refine st V.move ?_
                        refine st (V.ib i rfl z4 hA8) ?_
                        refine st V.fa ?_
                        first | refine st V.ld ?_ | refine sq V.lo ?_
                        refine st V.len ?_
                        refine st V.lss ?_
                        refine sn ?_
                        refine cond (fun h24 => ?_) (fun h24 => ?_)
                        ·
                          have k24 := bp h24
                          refine AW.skip ?_
                          refine AW.seq ?_
                          refine AW.block ?_
                          refine AW.seq ?_
                          have z7 : j < d[i].cons.length := by omega
                          obtain ⟨b7, o7, hA7, j0, jb0, A7, c7, q1, q2⟩ := (i2.upC (M' := Ml1)).at j z7
                          refine AW.region ?_
                          refine st V.move ?_
                          refine st V.move ?_
                          refine st (V.ib i rfl z4 hA8) ?_
                          refine st V.fa ?_
                          first | refine st V.ld ?_ | refine sq V.lo ?_
                          refine st V.move ?_
                          refine st (V.ib j rfl z7 hA7) ?_
                          refine st V.fa0 ?_
                          first | refine st V.ld ?_ | refine sq V.lo ?_
                          refine se (S.call ?_)
                          refine (r_name_c _ _ _ jb0).use ?_
                          rintro v9 N9 G9 iz9 ⟨rfl, hG⟩
                          obtain rfl := hG.symm
                          refine st V.not ?_
                          refine sn ?_
                          refine cond (fun h25 => ?_) (fun h25 => ?_)
                          ·
                            have k25 := bp h25
                            refine AW.seq ?_
                            refine AW.region ?_
                            refine st V.assign ?_
                            refine sn ?_
                            refine AW.ret ?_
                            repeat with_reducible first | refine thn_ret ?_ | refine inb_ret ?_
                            refine fin (Res.i1 rfl) ?_
                            exact ⟨_, (by repeat first | exact List.Sublist.refl _ | apply List.Sublist.cons), by first | contradiction | exact tt_t ⟨z0, ‹_›, by omega, by assumption, by assumption, by omega, fun j h => hall j h (by omega)⟩ | exact tt_f fun ⟨a0, a1, a2, a3, a4, a5, a6⟩ => by first | omega | contradiction | (obtain ⟨x1, x2, x3⟩ := a6 i (by omega); first | omega | (rw [List.any_eq_false] at x3; have x4 := x3 _ (List.getElem_mem z7); simp_all) | simp_all), rfl⟩
                          ·
                            have k25 := bp h25
                            refine AW.skip ?_
                            refine AW.region ?_
                            refine st V.move ?_
                            refine st (V.add64 (by omega)) ?_
                            refine st V.assign ?_
                            refine sn ?_
                            repeat with_reducible refine inb_normal ?_
                            refine thn_normal ?_
                            refine rnd (n1 - 1) _ (by omega) (List.Sublist.refl _) ⟨j + 1, by simp, rfl, by omega, fun k hk hkj => ?_⟩
                            rcases Nat.lt_or_ge k j with h | h
                            · exact hall1 k hk h
                            · obtain rfl : k = j := by omega
                              assumption
                        ·
                          have k24 := bp h24
                          refine AW.exit ?_
                          repeat with_reducible refine thn_exit ?_
                          refine inb_exit ?_
                          refine AW.region ?_
                          refine st V.move ?_
                          refine st (V.add64 (by omega)) ?_
                          refine st V.assign ?_
                          refine sn ?_
                          repeat with_reducible refine inb_normal ?_
                          refine thn_normal ?_
                          refine rnd (n - 1) _ (by omega) (List.Sublist.refl _) ⟨i + 1, by simp, rfl, by omega, fun k hk hki => ?_⟩
                          rcases Nat.lt_or_ge k i with h | h
                          · exact hall k hk h
                          · obtain rfl : k = i := by omega
                            exact ⟨hnm, by omega, any_none fun j' hj' => by rw [hall1 j' hj' (by omega)]; rfl⟩
                    ·
                      have k22 := bp h22
                      refine off rfl h22 ?_
                      refine off rfl h22 ?_
                      refine off rfl h22 ?_
                      refine off rfl h22 ?_
                      refine off rfl h22 ?_
                      refine off rfl h22 ?_
                      refine st (V.pT h22) ?_
                      refine sn ?_
                      refine cond (fun _ => ?_) (fun h => by cases h)
                      refine AW.seq ?_
                      refine AW.region ?_
                      refine st V.assign ?_
                      refine sn ?_
                      refine AW.ret ?_
                      repeat with_reducible first | refine thn_ret ?_ | refine inb_ret ?_
                      refine fin (Res.i1 rfl) ?_
                      exact ⟨_, (by repeat first | exact List.Sublist.refl _ | apply List.Sublist.cons), by first | contradiction | exact tt_t ⟨z0, ‹_›, by omega, by assumption, by assumption, by omega, fun j h => hall j h (by omega)⟩ | exact tt_f fun ⟨a0, a1, a2, a3, a4, a5, a6⟩ => by first | omega | contradiction | (obtain ⟨x1, x2, x3⟩ := a6 i (by omega); first | omega | (rw [List.any_eq_false] at x3; have x4 := x3 _ (List.getElem_mem z7); simp_all) | simp_all), rfl⟩
                  ·
                    have k21 := bp h21
                    refine AW.exit ?_
                    repeat with_reducible refine thn_exit ?_
                    refine inb_exit ?_
                    refine AW.seq ?_
                    refine AW.region ?_
                    refine st V.assign ?_
                    refine sn ?_
                    refine AW.ret ?_
                    repeat with_reducible first | refine thn_ret ?_ | refine inb_ret ?_
                    refine fin (Res.i1 rfl) ?_
                    exact ⟨_, (by repeat first | exact List.Sublist.refl _ | apply List.Sublist.cons), by first | contradiction | exact tt_t ⟨z0, ‹_›, by omega, by assumption, by assumption, by omega, fun j h => hall j h (by omega)⟩ | exact tt_f fun ⟨a0, a1, a2, a3, a4, a5, a6⟩ => by first | omega | contradiction | (obtain ⟨x1, x2, x3⟩ := a6 i (by omega); first | omega | (rw [List.any_eq_false] at x3; have x4 := x3 _ (List.getElem_mem z7); simp_all) | simp_all), rfl⟩
              ·
                have k19 := bp h19
                refine off rfl h19 ?_
                refine off rfl h19 ?_
                refine off rfl h19 ?_
                refine st (V.pT h19) ?_
                refine sn ?_
                refine cond (fun _ => ?_) (fun h => by cases h)
                refine AW.seq ?_
                refine AW.region ?_
                refine st V.assign ?_
                refine sn ?_
                refine AW.ret ?_
                repeat with_reducible first | refine thn_ret ?_ | refine inb_ret ?_
                refine fin (Res.i1 rfl) ?_
                exact ⟨_, (by repeat first | exact List.Sublist.refl _ | apply List.Sublist.cons), by first | contradiction | exact tt_t ⟨z0, ‹_›, by omega, by assumption, by assumption, by omega, fun j h => hall j h (by omega)⟩ | exact tt_f fun ⟨a0, a1, a2, a3, a4, a5, a6⟩ => by first | omega | contradiction | (obtain ⟨x1, x2, x3⟩ := a6 i (by omega); first | omega | (rw [List.any_eq_false] at x3; have x4 := x3 _ (List.getElem_mem z7); simp_all) | simp_all), rfl⟩
            ·
              have k18 := bp h18
              refine off rfl h18 ?_
              refine off rfl h18 ?_
              refine off rfl h18 ?_
              refine st (V.pT h18) ?_
              refine st V.move ?_
              refine off rfl rfl ?_
              refine off rfl rfl ?_
              refine off rfl rfl ?_
              refine off rfl rfl ?_
              refine st (V.pT rfl) ?_
              refine sn ?_
              refine cond (fun _ => ?_) (fun h => by cases h)
              refine AW.seq ?_
              refine AW.region ?_
              refine st V.assign ?_
              refine sn ?_
              refine AW.ret ?_
              repeat with_reducible first | refine thn_ret ?_ | refine inb_ret ?_
              refine fin (Res.i1 rfl) ?_
              exact ⟨_, (by repeat first | exact List.Sublist.refl _ | apply List.Sublist.cons), by first | contradiction | exact tt_t ⟨z0, ‹_›, by omega, by assumption, by assumption, by omega, fun j h => hall j h (by omega)⟩ | exact tt_f fun ⟨a0, a1, a2, a3, a4, a5, a6⟩ => by first | omega | contradiction | (obtain ⟨x1, x2, x3⟩ := a6 i (by omega); first | omega | (rw [List.any_eq_false] at x3; have x4 := x3 _ (List.getElem_mem z7); simp_all) | simp_all), rfl⟩
          ·
            have k17 := bp h17
            refine off rfl h17 ?_
            refine off rfl h17 ?_
            refine st (V.pT h17) ?_
            refine st V.move ?_
            refine off rfl rfl ?_
            refine off rfl rfl ?_
            refine off rfl rfl ?_
            refine off rfl rfl ?_
            refine st (V.pT rfl) ?_
            refine st V.move ?_
            refine off rfl rfl ?_
            refine off rfl rfl ?_
            refine off rfl rfl ?_
            refine off rfl rfl ?_
            refine st (V.pT rfl) ?_
            refine sn ?_
            refine cond (fun _ => ?_) (fun h => by cases h)
            refine AW.seq ?_
            refine AW.region ?_
            refine st V.assign ?_
            refine sn ?_
            refine AW.ret ?_
            repeat with_reducible first | refine thn_ret ?_ | refine inb_ret ?_
            refine fin (Res.i1 rfl) ?_
            exact ⟨_, (by repeat first | exact List.Sublist.refl _ | apply List.Sublist.cons), by first | contradiction | exact tt_t ⟨z0, ‹_›, by omega, by assumption, by assumption, by omega, fun j h => hall j h (by omega)⟩ | exact tt_f fun ⟨a0, a1, a2, a3, a4, a5, a6⟩ => by first | omega | contradiction | (obtain ⟨x1, x2, x3⟩ := a6 i (by omega); first | omega | (rw [List.any_eq_false] at x3; have x4 := x3 _ (List.getElem_mem z7); simp_all) | simp_all), rfl⟩
    ·
      have k2 := bp h2
      refine off rfl h2 ?_
      refine off rfl h2 ?_
      refine off rfl h2 ?_
      refine off rfl h2 ?_
      refine off rfl h2 ?_
      refine st (V.pT h2) ?_
      refine sn ?_
      refine cond (fun _ => ?_) (fun h => by cases h)
      refine AW.seq ?_
      refine AW.region ?_
      refine st V.assign ?_
      refine sn ?_
      refine AW.ret ?_
      repeat with_reducible first | refine thn_ret ?_ | refine inb_ret ?_
      refine fin (Res.i1 rfl) ?_
      exact ⟨_, (by repeat first | exact List.Sublist.refl _ | apply List.Sublist.cons), by first | contradiction | exact tt_t ⟨z0, ‹_›, by omega, by assumption, by assumption, by omega, fun j h => hall j h (by omega)⟩ | exact tt_f fun ⟨a0, a1, a2, a3, a4, a5, a6⟩ => by first | omega | contradiction | (obtain ⟨x1, x2, x3⟩ := a6 i (by omega); first | omega | (rw [List.any_eq_false] at x3; have x4 := x3 _ (List.getElem_mem z7); simp_all) | simp_all), rfl⟩
  ·
    have k1 := bp h1
    refine off rfl h1 ?_
    refine off rfl h1 ?_
    refine off rfl h1 ?_
    refine off rfl h1 ?_
    refine st (V.pT h1) ?_
    refine st V.move ?_
    refine off rfl rfl ?_
    refine off rfl rfl ?_
    refine off rfl rfl ?_
    refine off rfl rfl ?_
    refine off rfl rfl ?_
    refine off rfl rfl ?_
    refine st (V.pT rfl) ?_
    refine sn ?_
    refine cond (fun _ => ?_) (fun h => by cases h)
    refine AW.seq ?_
    refine AW.region ?_
    refine st V.assign ?_
    refine sn ?_
    refine AW.ret ?_
    repeat with_reducible first | refine thn_ret ?_ | refine inb_ret ?_
    refine fin (Res.i1 rfl) ?_
    exact ⟨_, (by repeat first | exact List.Sublist.refl _ | apply List.Sublist.cons), by first | contradiction | exact tt_t ⟨z0, ‹_›, by omega, by assumption, by assumption, by omega, fun j h => hall j h (by omega)⟩ | exact tt_f fun ⟨a0, a1, a2, a3, a4, a5, a6⟩ => by first | omega | contradiction | (obtain ⟨x1, x2, x3⟩ := a6 i (by omega); first | omega | (rw [List.any_eq_false] at x3; have x4 := x3 _ (List.getElem_mem z7); simp_all) | simp_all), rfl⟩
set_option maxHeartbeats 1600000 in
set_option synthInstance.maxHeartbeats 400000 in
set_option synthInstance.maxSize 100000 in
set_option maxRecDepth 100000 in
theorem r_in_c (M : Mem) (H : Heap) (A : Option Addr) (c r : Nat) (l : List ByteArray) (hr : H[r]? = some (.row A l.length c 9 1 (l.map .string))) (hb : l.length ≤ 1000000) (s : ByteArray) :
    AC Tryz.prog 88 [.slice A l.length c, .string s] M H fun v _ H' => v = .bool (tt (s ∈ l)) ∧ H' = H := by
  refine AC.fact (0 < l.length → ∃ b, A = some ⟨b, 0, none⟩) (fun g w hS => (hS.rowA r hr).2.2.2) fun hA => ?_
  refine AC.of (n := 16) Tryz.func88 rfl rfl ?_
  dsimp only [List.replicate, List.cons_append, List.nil_append]
  refine AW.seq ?_
  refine AW.region ?_
  refine st V.assign ?_
  refine sn ?_
  refine AW.seq ?_
  refine AW.seq ?_
  refine AW.region ?_
  refine st V.assign ?_
  refine sn ?_
  refine AW.block ?_
  refine AW.loopL [5] (4 :: 6 :: 7 :: 8 :: 9 :: 10 :: 11 :: 12 :: 13 :: 14 :: 15 :: 16 :: 17 :: []) (fun n vs M' H' => ∃ i : Nat, vs = [.int .i64 (i : Int)] ∧ H' = H ∧ i + n = l.length ∧ (∀ k (h : k < l.length), k < i → l[k] ≠ s)) (l.length) (⟨0, rfl, rfl, by omega, fun j _ h => by omega⟩) ?_
  intro n Ml Hl iL u5 hI u4 u6 u7 u8 u9 u10 u11 u12 u13 u14 u15 u16 u17
  obtain ⟨i, hv, hH, hi, hall⟩ := hI
  obtain rfl := hH.symm
  cases hv
  refine sa ?_
  refine AW.seq ?_
  refine AW.seq ?_
  refine AW.region ?_
  refine st V.move ?_
  refine st V.move ?_
  refine st V.len ?_
  refine st V.lss ?_
  refine sn ?_
  refine cond (fun h1 => ?_) (fun h1 => ?_)
  ·
    have k1 := bp h1
    refine AW.skip ?_
    refine AW.seq ?_
    refine AW.block ?_
    refine AW.seq ?_
    have z4 : i < l.length := by omega
    obtain ⟨g, hg⟩ := hA (by omega)
    subst hg
    refine AW.region ?_
    refine st V.move ?_
    refine st V.move ?_
    refine st (V.ib i rfl z4 rfl) ?_
    refine sq (V.lr (v := .string l[i]) r hr (by simp [z4])) ?_
    refine st V.move ?_
    refine st V.eqs ?_
    refine sn ?_
    refine cond (fun h2 => ?_) (fun h2 => ?_)
    ·
      have k2 := bp h2
      refine AW.seq ?_
      refine AW.region ?_
      refine st V.assign ?_
      refine sn ?_
      refine AW.ret ?_
      repeat with_reducible first | refine thn_ret ?_ | refine inb_ret ?_
      refine fin (Res.i1 rfl) ?_
      exact ⟨_, (by repeat first | exact List.Sublist.refl _ | apply List.Sublist.cons), tt_t (by rw [← k2]; exact List.getElem_mem z4), rfl⟩
    ·
      have k2 := bp h2
      refine AW.skip ?_
      refine AW.region ?_
      refine st V.move ?_
      refine st (V.add64 (by omega)) ?_
      refine st V.assign ?_
      refine sn ?_
      repeat with_reducible refine inb_normal ?_
      refine thn_normal ?_
      refine rnd (n - 1) _ (by omega) (List.Sublist.refl _) ⟨i + 1, by simp, rfl, by omega, fun k hk hki => ?_⟩
      rcases Nat.lt_or_ge k i with h | h
      · exact hall k hk h
      · obtain rfl : k = i := by omega
        exact k2
  ·
    have k1 := bp h1
    refine AW.exit ?_
    repeat with_reducible refine thn_exit ?_
    refine inb_exit ?_
    refine AW.seq ?_
    refine AW.region ?_
    refine st V.assign ?_
    refine sn ?_
    refine AW.ret ?_
    repeat with_reducible first | refine thn_ret ?_ | refine inb_ret ?_
    refine fin (Res.i1 rfl) ?_
    exact ⟨_, (by repeat first | exact List.Sublist.refl _ | apply List.Sublist.cons), tt_f (fun hm => by obtain ⟨k, hk, e⟩ := List.getElem_of_mem hm; exact hall k hk (by omega) e), rfl⟩
end Go.Proofs.YtieaiheejhmbfaaGreatDoor.ML
/- Walks of functions of the program, in the abstract layer. No conditions. -/
namespace Go.Proofs.YtieaiheejhmbfaaGreatDoor.ML
open Go.RowKit
set_option linter.unusedVariables false
set_option linter.unusedSimpArgs false
set_option maxHeartbeats 1600000 in
set_option synthInstance.maxHeartbeats 400000 in
set_option synthInstance.maxSize 100000 in
set_option maxRecDepth 100000 in
theorem r_twice_c (M : Mem) (H : Heap) (A : Option Addr) (c : Nat) (d : List DT) (hd : RdS 2 (RdD M) A c d) (hmb : d.length ≤ 64 ∧ ∀ p (hp : p < d.length), d[p].cons.length ≤ 16) :
    AC Tryz.prog 64 [.slice A d.length c] M H fun v _ H' => v = .bool (tt (TwiceP d)) ∧ H' = H := by
  refine AC.of (n := 63) Tryz.func64 rfl rfl ?_
  dsimp only [List.replicate, List.cons_append, List.nil_append]
  refine AW.seq ?_
  refine AW.region ?_
  refine st V.assign ?_
  refine sn ?_
  refine AW.seq ?_
  refine AW.region ?_
  refine st V.assign ?_
  refine st V.assign ?_
  refine sn ?_
  refine AW.seq ?_
  have hbd := hd.bd
  refine AW.row0 9 1 ?_
  refine AW.row0 9 1 ?_
  refine AW.region ?_
  refine st V.move ?_
  refine se (S.lit1 (by rfl) (by decide) ?_); intro g8
  refine se (S.ap1 (by rfl) (by omega) (by omega) ?_)
  intro A9 c9
  refine st V.assign ?_
  refine sn ?_
  refine AW.seq ?_
  refine AW.seq ?_
  refine AW.region ?_
  refine st V.assign ?_
  refine sn ?_
  refine AW.block ?_
  refine AW.loopL [3, 4, 5] (2 :: 6 :: 10 :: 11 :: 12 :: 13 :: 14 :: 15 :: 16 :: 17 :: 18 :: 19 :: 20 :: 21 :: 22 :: 23 :: 24 :: 25 :: 26 :: 27 :: 28 :: 29 :: 30 :: 31 :: 32 :: 33 :: 34 :: 35 :: 36 :: 37 :: 38 :: 39 :: 40 :: 41 :: 42 :: 43 :: 44 :: 45 :: 46 :: 47 :: 48 :: 49 :: 50 :: 51 :: 52 :: 53 :: 54 :: 55 :: 56 :: 57 :: 58 :: 59 :: 60 :: 61 :: 62 :: 63 :: []) (fun n vs M' H' => ∃ (i : Nat) (A1 : Option Addr) (c1 : Nat) (A2 : Option Addr) (c2 : Nat) (l1 l2 : List ByteArray), vs = [.slice A1 l1.length c1, .slice A2 l2.length c2, .int .i64 (i : Int)] ∧ H' = .row A1 (l1).length c1 9 1 ((l1).map .string) :: .row A2 (l2).length c2 9 1 ((l2).map .string) :: H ∧ l1 = nmL (d.take i) ∧ l2 = cnL (d.take i) ∧ i + n = d.length ∧ l1.Nodup ∧ l2.Nodup) (d.length) (⟨0, A9, c9, none, 0, [sInt], [], rfl, rfl, by simp [nmL], by simp [cnL], by omega, by simp, by simp⟩) ?_
  intro n Ml Hl iL u3 u4 u5 hI u2 u6 u10 u11 u12 u13 u14 u15 u16 u17 u18 u19 u20 u21 u22 u23 u24 u25 u26 u27 u28 u29 u30 u31 u32 u33 u34 u35 u36 u37 u38 u39 u40 u41 u42 u43 u44 u45 u46 u47 u48 u49 u50 u51 u52 u53 u54 u55 u56 u57 u58 u59 u60 u61 u62 u63
  obtain ⟨i, A1, c1, A2, c2, l1, l2, hv, hH, e1, e2, hi, hn1, hn2⟩ := hI
  subst hH
  cases hv
  refine sa ?_
  refine AW.seq ?_
  refine AW.seq ?_
  refine AW.region ?_
  refine st V.move ?_
  refine st V.move ?_
  refine st V.len ?_
  refine st V.lss ?_
  refine sn ?_
  refine cond (fun h1 => ?_) (fun h1 => ?_)
  ·
    have k1 := bp h1
    refine AW.skip ?_
    refine AW.seq ?_
    refine AW.block ?_
    refine AW.seq ?_
    refine AW.seq ?_
    have z4 : i < d.length := by omega
    obtain ⟨b8, o8, hA8, i0, ib0, A8, c8, i1, i2⟩ := (hd.upD (M' := Ml)).at i z4
    have hbd2 := i2.bd
    have hl1 : l1.length ≤ 100 := by rw [e1, nmL]; simp; omega
    have hl2 : l2.length ≤ 2000 := by rw [e2]; have := cn_bd (d := d.take i) (fun x hx => by obtain ⟨k, hk, rfl⟩ := List.getElem_of_mem (List.mem_of_mem_take hx); exact hmb.2 k hk); simp at this; omega
    refine AW.region ?_
    refine st V.move ?_
    refine st V.move ?_
    refine st V.move ?_
    refine st (V.ib i rfl z4 hA8) ?_
    refine st V.fa0 ?_
    first | refine st V.ld ?_ | refine sq V.lo ?_
    refine se (S.call ?_)
    refine (r_in_c _ _ A1 c1 0 l1 rfl (by omega) _).use ?_
    rintro v N G iz ⟨rfl, hG⟩
    obtain rfl := hG.symm
    refine sn ?_
    refine cond (fun h2 => ?_) (fun h2 => ?_)
    ·
      have k2 := bp h2
      refine AW.seq ?_
      refine AW.region ?_
      refine st V.assign ?_
      refine sn ?_
      refine AW.ret ?_
      repeat with_reducible first | refine thn_ret ?_ | refine inb_ret ?_
      refine fin (Res.i1 rfl) ?_
      refine ⟨_, (by repeat first | exact List.Sublist.refl _ | apply List.Sublist.cons), tt_t (nm_dup d i z4 (by rw [← e1]; exact tt_eq.1 h2)), rfl⟩
    ·
      have k2 := bp h2
      refine AW.skip ?_
      refine AW.seq ?_
      have z5 : d[i].name ∉ l1 := fun hm => by rw [tt_true hm] at h2; cases h2
      have hm1 := nodup_push hn1 z5
      refine AW.region ?_
      refine st V.move ?_
      refine st V.move ?_
      refine st V.move ?_
      refine st (V.ib i rfl z4 hA8) ?_
      refine st V.fa0 ?_
      first | refine st V.ld ?_ | refine sq V.lo ?_
      refine se (S.lit1 (by rfl) (by decide) ?_); intro g29
      refine se (S.ap1 (by rfl) (by omega) (by omega) ?_)
      intro A5 c5
      refine st V.assign ?_
      refine sn ?_
      refine AW.seq ?_
      refine AW.region ?_
      refine st V.assign ?_
      refine sn ?_
      refine AW.block ?_
      refine AW.loopL [4, 6] (2 :: 31 :: 32 :: 33 :: 34 :: 35 :: 36 :: 37 :: 38 :: 39 :: 40 :: 41 :: 42 :: 43 :: 44 :: 45 :: 46 :: 47 :: 48 :: 49 :: 50 :: 51 :: 52 :: 53 :: 54 :: 55 :: 56 :: 57 :: 58 :: 59 :: 60 :: 61 :: 62 :: 63 :: []) (fun n vs M' H' => ∃ (j : Nat) (A3 : Option Addr) (c3 : Nat) (l3 : List ByteArray), vs = [.slice A3 l3.length c3, .int .i64 (j : Int)] ∧ H' = .row A5 (l1 ++ [d[i].name]).length c5 9 1 ((l1 ++ [d[i].name]).map .string) :: .row A3 (l3).length c3 9 1 ((l3).map .string) :: H ∧ l3 = l2 ++ (d[i].cons.take j).map (·.name) ∧ j + n = d[i].cons.length ∧ l3.Nodup) (d[i].cons.length) (⟨0, A2, c2, l2, rfl, by simp, by simp, by omega, hn2⟩) ?_
      intro n1 Ml1 Hl1 iL1 u4 u6 hI1 u2 u31 u32 u33 u34 u35 u36 u37 u38 u39 u40 u41 u42 u43 u44 u45 u46 u47 u48 u49 u50 u51 u52 u53 u54 u55 u56 u57 u58 u59 u60 u61 u62 u63
      obtain ⟨j, A3, c3, l3, hv, hH, e3, hj, hn3⟩ := hI1
      subst hH
      cases hv
      refine sa ?_
      refine AW.seq ?_
      refine AW.seq ?_
      refine AW.region ?_
      refine st V.move ?_
      refine st V.move ?_
      refine st V.move ?_
      refine st (V.ib i rfl z4 hA8) ?_
      refine st V.fa ?_
      first | refine st V.ld ?_ | refine sq V.lo ?_
      refine st V.len ?_
      refine st V.lss ?_
      refine sn ?_
      refine cond (fun h3 => ?_) (fun h3 => ?_)
      ·
        have k3 := bp h3
        refine AW.skip ?_
        refine AW.seq ?_
        refine AW.block ?_
        refine AW.seq ?_
        refine AW.seq ?_
        have z7 : j < d[i].cons.length := by omega
        obtain ⟨b7, o7, hA7, j0, jb0, Aq, cq, q1, q2⟩ := (i2.upC (M' := Ml1)).at j z7
        have hb16 := hmb.2 i z4
        have hl3 : l3.length ≤ 3000 := by rw [e3]; simp; omega
        refine AW.region ?_
        refine st V.move ?_
        refine st V.move ?_
        refine st V.move ?_
        refine st (V.ib i rfl z4 hA8) ?_
        refine st V.fa ?_
        first | refine st V.ld ?_ | refine sq V.lo ?_
        refine st V.move ?_
        refine st (V.ib j rfl z7 hA7) ?_
        refine st V.fa0 ?_
        first | refine st V.ld ?_ | refine sq V.lo ?_
        refine se (S.call ?_)
        refine (r_in_c _ _ A3 c3 1 l3 rfl (by omega) _).use ?_
        rintro v N G iz ⟨rfl, hG⟩
        obtain rfl := hG.symm
        refine sn ?_
        refine cond (fun h4 => ?_) (fun h4 => ?_)
        ·
          have k4 := bp h4
          refine AW.seq ?_
          refine AW.region ?_
          refine st V.assign ?_
          refine sn ?_
          refine AW.ret ?_
          repeat with_reducible first | refine thn_ret ?_ | refine inb_ret ?_
          refine fin (Res.i1 rfl) ?_
          refine ⟨_, (by repeat first | exact List.Sublist.refl _ | apply List.Sublist.cons), tt_t (cn_dup d i z4 j z7 (by rw [← e2, ← e3]; exact tt_eq.1 h4)), rfl⟩
        ·
          have k4 := bp h4
          refine AW.skip ?_
          have z8 : d[i].cons[j].name ∉ l3 := fun hm => by rw [tt_true hm] at h4; cases h4
          refine AW.region ?_
          refine st V.move ?_
          refine st V.move ?_
          refine st V.move ?_
          refine st (V.ib i rfl z4 hA8) ?_
          refine st V.fa ?_
          first | refine st V.ld ?_ | refine sq V.lo ?_
          refine st V.move ?_
          refine st (V.ib j rfl z7 hA7) ?_
          refine st V.fa0 ?_
          first | refine st V.ld ?_ | refine sq V.lo ?_
          refine se (S.lit1 (by rfl) (by decide) ?_); intro g62
          refine se (S.ap1 (by rfl) (by omega) (by omega) ?_)
          intro A7 c7
          refine st V.assign ?_
          refine sn ?_
          refine AW.region ?_
          refine st V.move ?_
          refine st (V.add64 (by omega)) ?_
          refine st V.assign ?_
          refine sn ?_
          repeat with_reducible refine inb_normal ?_
          refine thn_normal ?_
          refine rnd (n1 - 1) _ (by omega) (List.Sublist.refl _) ⟨j + 1, A7, c7, l3 ++ [d[i].cons[j].name], by simp, by simp, ?_, by omega, nodup_push hn3 z8⟩
          rw [take_succ _ _ z7, List.map_append, ← List.append_assoc, ← e3]; rfl
      ·
        have k3 := bp h3
        refine AW.exit ?_
        repeat with_reducible refine thn_exit ?_
        refine inb_exit ?_
        refine AW.region ?_
        refine st V.move ?_
        refine st (V.add64 (by omega)) ?_
        refine st V.assign ?_
        refine sn ?_
        repeat with_reducible refine inb_normal ?_
        refine thn_normal ?_
        have z6 : (d[i].cons.take j) = d[i].cons := List.take_of_length_le (by omega)
        rw [z6] at e3
        refine rnd (n - 1) _ (by omega) (List.Sublist.refl _) ⟨i + 1, A5, c5, A3, c3, _, l3, by simp, rfl, by rw [nmL_succ d i z4, e1], by rw [cnL_succ d i z4, e3, e2], by omega, hm1, hn3⟩
  ·
    have k1 := bp h1
    refine AW.exit ?_
    repeat with_reducible refine thn_exit ?_
    refine inb_exit ?_
    refine AW.seq ?_
    refine AW.region ?_
    refine st V.assign ?_
    refine sn ?_
    refine AW.ret ?_
    repeat with_reducible first | refine thn_ret ?_ | refine inb_ret ?_
    refine fin (Res.i1 rfl) ?_
    refine ⟨_, (by repeat first | exact List.Sublist.refl _ | apply List.Sublist.cons), tt_f (fun ht => ht (by rw [List.take_of_length_le (by omega)] at e1 e2; rw [← e1, ← e2]; exact ⟨hn1, hn2⟩)), rfl⟩
end Go.Proofs.YtieaiheejhmbfaaGreatDoor.ML
