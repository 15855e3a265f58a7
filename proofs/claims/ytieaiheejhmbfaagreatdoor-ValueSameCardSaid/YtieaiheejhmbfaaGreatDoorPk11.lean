/- Walks of functions of the program, in the abstract layer. No conditions. -/
import Derived.Test.YtieaiheejhmbfaaGreatDoorPk10
import Derived.Test.YtieaiheejhmbfaaGreatDoorPk3
import Derived.RangeFuncNested
import Derived.RangeFuncLeaves
namespace Go.Proofs.YtieaiheejhmbfaaGreatDoor.ML
open Go.RowKit
set_option linter.unusedVariables false
set_option linter.unusedSimpArgs false
set_option maxHeartbeats 1600000 in
set_option synthInstance.maxHeartbeats 400000 in
set_option synthInstance.maxSize 100000 in
set_option maxRecDepth 100000 in
theorem r_formed_c (M : Mem) (H : Heap) (A : Option Addr) (c : Nat) (d : List DT) (hd : RdS 2 (RdD M) A c d) :
    AC Tryz.prog 63 [.slice A d.length c] M H fun v _ H' => v = .bool (tt (FormedP d)) ∧ H' = H := by
  refine AC.of (n := 99) Tryz.func63 rfl rfl ?_
  dsimp only [List.replicate, List.cons_append, List.nil_append]
  refine AW.seq ?_
  refine AW.region ?_
  refine st V.assign ?_
  refine sn ?_
  refine AW.seq ?_
  refine AW.seq ?_
  refine AW.region ?_
  refine st V.move ?_
  refine st V.len ?_
  refine st V.eql ?_
  refine st V.move ?_
  refine onoff true rfl rfl (fun h1 => ?_) (fun h1 => ?_)
  ·
    have k1 := bp h1
    have hbd := hd.bd
    have z0 : 0 < d.length := by omega
    obtain ⟨b, o, hA, e0, eb, A', c', e1, e2⟩ := hd.at 0 z0
    refine st V.move ?_
    refine on rfl h1 ?_
    refine st (V.ib 0 rfl z0 hA) ?_
    refine on rfl h1 ?_
    refine st V.fa0 ?_
    refine on rfl h1 ?_
    first | refine st V.ld ?_ | refine sq V.lo ?_
    refine on rfl h1 ?_
    refine st V.nes ?_
    refine st (V.pF h1) ?_
    refine st V.move ?_
    refine onoff true rfl rfl (fun h2 => ?_) (fun h2 => ?_)
    ·
      have k2 := bp h2
      refine st V.move ?_
      refine on rfl h2 ?_
      refine st (V.ib 0 rfl z0 hA) ?_
      refine on rfl h2 ?_
      refine st V.fa ?_
      refine on rfl h2 ?_
      first | refine st V.ld ?_ | refine sq V.lo ?_
      refine on rfl h2 ?_
      refine st V.len ?_
      refine on rfl h2 ?_
      refine st V.neq ?_
      refine st (V.pF h2) ?_
      refine sn ?_
      refine cond (fun h3 => ?_) (fun h3 => ?_)
      ·
        have k3 := bp h3
        refine AW.seq ?_
        refine AW.region ?_
        refine st V.assign ?_
        refine sn ?_
        refine AW.ret ?_
        repeat with_reducible first | refine thn_ret ?_ | refine inb_ret ?_
        refine fin (Res.i1 rfl) ?_
        exact ⟨_, (by repeat first | exact List.Sublist.refl _ | apply List.Sublist.cons), by first | contradiction | exact tt_t ⟨z0, ‹_›, by omega, by assumption, by assumption, by omega, fun j h => hall j h (by omega)⟩ | exact tt_f fun ⟨a0, a1, a2, a3, a4, a5, a6⟩ => by first | omega | contradiction | (obtain ⟨x1, x2, x3⟩ := a6 i (by omega); first | omega | (rw [List.any_eq_false] at x3; have x4 := x3 _ (List.getElem_mem z7); simp_all) | simp_all), rfl⟩
      ·
        have k3 := bp h3
        refine AW.skip ?_
        refine AW.seq ?_
        have z2 : d[0].cons.length = 2 := by omega
        obtain ⟨b0, o0, hA0, f0, fb0, B0, K0, f1, f2⟩ := e2.at 0 (by omega)
        obtain ⟨b1, o1, hA1, g0, gb1, B1, K1, g1, g2⟩ := e2.at 1 (by omega)
        have hb0 := f2.bd
        have hb1 := g2.bd
        refine AW.regionD2 mx 12 13 [0, 1, 2, 3, 4, 5, 6, 7, 8, 9, 10, 11, 12, 13, 14, 15] [0, 1, 2, 3, 4, 5, 6, 7, 8, 9, 10, 11, 13, 12, 14, 15] [[], [0], [0, 1], [0, 1, 2], [0, 1, 2, 3], [0, 1, 2, 3, 4], [], [6], [6, 7], [6, 7, 8], [6, 7, 8, 9], [6, 7, 8, 9, 10], [], [], [0, 1, 2, 3, 4, 5, 12, 13], [0, 1, 2, 3, 4, 5, 6, 7, 8, 9, 10, 11, 12, 13, 14]] (by kernel_rfl) ?_ ?_
        ·
          refine D.p rfl rfl V.move ?_
          refine D.p rfl rfl (V.ib 0 rfl z0 hA) ?_
          refine D.p rfl rfl V.fa ?_
          refine D.p rfl rfl V.ld ?_
          refine D.p rfl rfl (V.ib 0 rfl (by omega) hA0) ?_
          refine D.p rfl rfl V.ldA ?_
          refine D.p rfl rfl V.move ?_
          refine D.p rfl rfl (V.ib 0 rfl z0 hA) ?_
          refine D.p rfl rfl V.fa ?_
          refine D.p rfl rfl V.ld ?_
          refine D.p rfl rfl (V.ib 1 rfl (by omega) hA1) ?_
          refine D.p rfl rfl V.ldA ?_
          refine D.e rfl rfl (S.alloc ?_); intro b3
          refine D.e rfl rfl (S.alloc ?_); intro b4
          refine D.e rfl rfl (S.storeA rfl ?_)
          refine D.e rfl rfl (S.storeA rfl ?_)
          refine D.nl ?_
          refine AW.seq ?_
          refine AW.seq ?_
          refine AW.region ?_
          refine st V.fa0 ?_
          first | refine st V.ld ?_ | refine sq V.lo ?_
          refine st V.nes ?_
          refine st V.move ?_
          refine onoff true rfl rfl (fun h4 => ?_) (fun h4 => ?_)
          ·
            have k4 := bp h4
            refine st V.fa0 ?_
            refine on rfl h4 ?_
            first | refine st V.ld ?_ | refine sq V.lo ?_
            refine on rfl h4 ?_
            refine st V.nes ?_
            refine st (V.pF h4) ?_
            refine st V.move ?_
            refine onoff true rfl rfl (fun h5 => ?_) (fun h5 => ?_)
            ·
              have k5 := bp h5
              refine st V.faz ?_
              refine on rfl h5 ?_
              first | refine st V.ld ?_ | refine sq V.lo ?_
              refine on rfl h5 ?_
              refine st V.len ?_
              refine on rfl h5 ?_
              refine st V.gtr ?_
              refine st (V.pF h5) ?_
              refine st V.move ?_
              refine onoff true rfl rfl (fun h6 => ?_) (fun h6 => ?_)
              ·
                have k6 := bp h6
                refine st V.faz ?_
                refine on rfl h6 ?_
                first | refine st V.ld ?_ | refine sq V.lo ?_
                refine on rfl h6 ?_
                refine st V.len ?_
                refine on rfl h6 ?_
                refine st V.gtr ?_
                refine st (V.pF h6) ?_
                refine sn ?_
                refine cond (fun h7 => ?_) (fun h7 => ?_)
                ·
                  have k7 := bp h7
                  refine AW.seq ?_
                  refine AW.region ?_
                  refine st V.assign ?_
                  refine sn ?_
                  refine AW.ret ?_
                  repeat with_reducible first | refine thn_ret ?_ | refine inb_ret ?_
                  refine fin (Res.i1 rfl) ?_
                  exact ⟨_, (by repeat first | exact List.Sublist.refl _ | apply List.Sublist.cons), by first | contradiction | exact tt_t ⟨z0, ‹_›, by omega, by assumption, by assumption, by omega, fun j h => hall j h (by omega)⟩ | exact tt_f fun ⟨a0, a1, a2, a3, a4, a5, a6⟩ => by first | omega | contradiction | (obtain ⟨x1, x2, x3⟩ := a6 i (by omega); first | omega | (rw [List.any_eq_false] at x3; have x4 := x3 _ (List.getElem_mem z7); simp_all) | simp_all), rfl⟩
                ·
                  have k7 := bp h7
                  refine AW.skip ?_
                  refine AW.seq ?_
                  refine AW.seq ?_
                  refine AW.region ?_
                  refine st V.assign ?_
                  refine sn ?_
                  refine AW.block ?_
                  refine AW.drop (H' := H) (by repeat first | exact List.Sublist.refl _ | apply List.Sublist.cons) ?_
                  refine AW.loopL [5] (2 :: 6 :: 57 :: 58 :: 59 :: 60 :: 61 :: 62 :: 63 :: 64 :: 65 :: 66 :: 67 :: 68 :: 69 :: 70 :: 71 :: 72 :: 73 :: 74 :: 75 :: 76 :: 77 :: 78 :: 79 :: 80 :: 81 :: 82 :: 83 :: 84 :: 85 :: 86 :: 87 :: 88 :: 89 :: 90 :: 91 :: 92 :: 93 :: 94 :: 95 :: 96 :: 97 :: 98 :: 99 :: []) (fun n vs M' H' => ∃ i : Nat, vs = [.int .i64 (i : Int)] ∧ H' = H ∧ i + n = d.length ∧ (∀ j (h : j < d.length), j < i → OkD d[j])) (d.length) (⟨0, rfl, rfl, by omega, fun j _ h => by omega⟩) ?_
                  intro n Ml Hl iL u5 hI u2 u6 u57 u58 u59 u60 u61 u62 u63 u64 u65 u66 u67 u68 u69 u70 u71 u72 u73 u74 u75 u76 u77 u78 u79 u80 u81 u82 u83 u84 u85 u86 u87 u88 u89 u90 u91 u92 u93 u94 u95 u96 u97 u98 u99
                  obtain ⟨i, hv, hH, hi, hall⟩ := hI
                  obtain rfl := hH.symm
                  cases hv
                  refine sa ?_
                  refine AW.seq ?_
                  refine AW.seq ?_
                  refine AW.region ?_
                  refine st V.move ?_
                  refine st V.move ?_
                  refine st V.len ?_
                  refine st V.lss ?_
                  refine sn ?_
                  refine cond (fun h8 => ?_) (fun h8 => ?_)
                  ·
                    have k8 := bp h8
                    refine AW.skip ?_
                    refine AW.seq ?_
                    refine AW.block ?_
                    refine AW.seq ?_
                    refine AW.seq ?_
                    have z4 : i < d.length := by omega
                    obtain ⟨b8, o8, hA8, i0, ib0, A8, c8, i1, i2⟩ := (hd.upD (M' := Ml)).at i z4
                    have hbd2 := i2.bd
                    refine AW.region ?_
                    refine st V.move ?_
                    refine st V.move ?_
                    refine st (V.ib i rfl z4 hA8) ?_
                    refine st V.fa0 ?_
                    first | refine st V.ld ?_ | refine sq V.lo ?_
                    refine se (S.call ?_)
                    refine (r_name_c _ _ _ ib0).use ?_
                    rintro v N G iz ⟨rfl, hG⟩
                    obtain rfl := hG.symm
                    refine st V.not ?_
                    refine st V.move ?_
                    refine onoff true rfl rfl (fun h9 => ?_) (fun h9 => ?_)
                    ·
                      have k9 := bp h9
                      refine st V.move ?_
                      refine on rfl h9 ?_
                      refine st V.move ?_
                      refine on rfl h9 ?_
                      refine st (V.ib i rfl z4 hA8) ?_
                      refine on rfl h9 ?_
                      refine st V.fa ?_
                      refine on rfl h9 ?_
                      first | refine st V.ld ?_ | refine sq V.lo ?_
                      refine on rfl h9 ?_
                      refine st V.len ?_
                      refine on rfl h9 ?_
                      refine st V.eql ?_
                      refine st (V.pF h9) ?_
                      refine sn ?_
                      refine cond (fun h10 => ?_) (fun h10 => ?_)
                      ·
                        have k10 := bp h10
                        refine AW.seq ?_
                        refine AW.region ?_
                        refine st V.assign ?_
                        refine sn ?_
                        refine AW.ret ?_
                        repeat with_reducible first | refine thn_ret ?_ | refine inb_ret ?_
                        refine fin (Res.i1 rfl) ?_
                        exact ⟨_, (by repeat first | exact List.Sublist.refl _ | apply List.Sublist.cons), by first | contradiction | exact tt_t ⟨z0, ‹_›, by omega, by assumption, by assumption, by omega, fun j h => hall j h (by omega)⟩ | exact tt_f fun ⟨a0, a1, a2, a3, a4, a5, a6⟩ => by first | omega | contradiction | (obtain ⟨x1, x2, x3⟩ := a6 i (by omega); first | omega | (rw [List.any_eq_false] at x3; have x4 := x3 _ (List.getElem_mem z7); simp_all) | simp_all), rfl⟩
                      ·
                        have k10 := bp h10
                        refine AW.skip ?_
                        refine AW.seq ?_
                        have hnm : nameF d[i].name = true := by assumption
                        refine AW.region ?_
                        refine st V.assign ?_
                        refine sn ?_
                        refine AW.block ?_
                        refine AW.loopL [6] (2 :: 79 :: 80 :: 81 :: 82 :: 83 :: 84 :: 85 :: 86 :: 87 :: 88 :: 89 :: 90 :: 91 :: 92 :: 93 :: 94 :: 95 :: 96 :: 97 :: 98 :: 99 :: []) (fun n vs M' H' => ∃ j : Nat, vs = [.int .i64 (j : Int)] ∧ H' = H ∧ j + n = d[i].cons.length ∧ (∀ k (h : k < d[i].cons.length), k < j → nameF d[i].cons[k].name = true)) (d[i].cons.length) (⟨0, rfl, rfl, by omega, fun k _ h => by omega⟩) ?_
                        intro n1 Ml1 Hl1 iL1 u6 hI1 u2 u79 u80 u81 u82 u83 u84 u85 u86 u87 u88 u89 u90 u91 u92 u93 u94 u95 u96 u97 u98 u99
                        obtain ⟨j, hv, hH, hj, hall1⟩ := hI1
                        obtain rfl := hH.symm
                        cases hv
                        refine sa ?_
                        refine AW.seq ?_
                        refine AW.seq ?_
                        refine AW.region ?_
                        refine st V.move ?_
                        refine st V.move ?_
                        refine st V.move ?_
                        refine st (V.ib i rfl z4 hA8) ?_
                        refine st V.fa ?_
                        first | refine st V.ld ?_ | refine sq V.lo ?_
                        refine st V.len ?_
                        refine st V.lss ?_
                        refine sn ?_
                        refine cond (fun h11 => ?_) (fun h11 => ?_)
                        ·
                          have k11 := bp h11
                          refine AW.skip ?_
                          refine AW.seq ?_
                          refine AW.block ?_
                          refine AW.seq ?_
                          have z7 : j < d[i].cons.length := by omega
                          obtain ⟨b7, o7, hA7, j0, jb0, A7, c7, q1, q2⟩ := (i2.upC (M' := Ml1)).at j z7
                          refine AW.region ?_
                          refine st V.move ?_
                          refine st V.move ?_
                          refine st (V.ib i rfl z4 hA8) ?_
                          refine st V.fa ?_
                          first | refine st V.ld ?_ | refine sq V.lo ?_
                          refine st V.move ?_
                          refine st (V.ib j rfl z7 hA7) ?_
                          refine st V.fa0 ?_
                          first | refine st V.ld ?_ | refine sq V.lo ?_
                          refine se (S.call ?_)
                          refine (r_name_c _ _ _ jb0).use ?_
                          rintro v9 N9 G9 iz9 ⟨rfl, hG⟩
                          obtain rfl := hG.symm
                          refine st V.not ?_
                          refine sn ?_
                          refine cond (fun h12 => ?_) (fun h12 => ?_)
                          ·
                            have k12 := bp h12
                            refine AW.seq ?_
                            refine AW.region ?_
                            refine st V.assign ?_
                            refine sn ?_
                            refine AW.ret ?_
                            repeat with_reducible first | refine thn_ret ?_ | refine inb_ret ?_
                            refine fin (Res.i1 rfl) ?_
                            exact ⟨_, (by repeat first | exact List.Sublist.refl _ | apply List.Sublist.cons), by first | contradiction | exact tt_t ⟨z0, ‹_›, by omega, by assumption, by assumption, by omega, fun j h => hall j h (by omega)⟩ | exact tt_f fun ⟨a0, a1, a2, a3, a4, a5, a6⟩ => by first | omega | contradiction | (obtain ⟨x1, x2, x3⟩ := a6 i (by omega); first | omega | (rw [List.any_eq_false] at x3; have x4 := x3 _ (List.getElem_mem z7); simp_all) | simp_all), rfl⟩
                          ·
                            have k12 := bp h12
                            refine AW.skip ?_
                            refine AW.region ?_
                            refine st V.move ?_
                            refine st (V.add64 (by omega)) ?_
                            refine st V.assign ?_
                            refine sn ?_
                            repeat with_reducible refine inb_normal ?_
                            refine thn_normal ?_
                            refine rnd (n1 - 1) _ (by omega) (List.Sublist.refl _) ⟨j + 1, by simp, rfl, by omega, fun k hk hkj => ?_⟩
                            rcases Nat.lt_or_ge k j with h | h
                            · exact hall1 k hk h
                            · obtain rfl : k = j := by omega
                              assumption
                        ·
                          have k11 := bp h11
                          refine AW.exit ?_
                          repeat with_reducible refine thn_exit ?_
                          refine inb_exit ?_
                          refine AW.region ?_
                          refine st V.move ?_
                          refine st (V.add64 (by omega)) ?_
                          refine st V.assign ?_
                          refine sn ?_
                          repeat with_reducible refine inb_normal ?_
                          refine thn_normal ?_
                          refine rnd (n - 1) _ (by omega) (List.Sublist.refl _) ⟨i + 1, by simp, rfl, by omega, fun k hk hki => ?_⟩
                          rcases Nat.lt_or_ge k i with h | h
                          · exact hall k hk h
                          · obtain rfl : k = i := by omega
                            exact ⟨hnm, by omega, any_none fun j' hj' => by rw [hall1 j' hj' (by omega)]; rfl⟩
                    ·
                      have k9 := bp h9
                      refine off rfl h9 ?_
                      refine off rfl h9 ?_
                      refine off rfl h9 ?_
                      refine off rfl h9 ?_
                      refine off rfl h9 ?_
                      refine off rfl h9 ?_
                      refine st (V.pT h9) ?_
                      refine sn ?_
                      refine cond (fun _ => ?_) (fun h => by cases h)
                      refine AW.seq ?_
                      refine AW.region ?_
                      refine st V.assign ?_
                      refine sn ?_
                      refine AW.ret ?_
                      repeat with_reducible first | refine thn_ret ?_ | refine inb_ret ?_
                      refine fin (Res.i1 rfl) ?_
                      exact ⟨_, (by repeat first | exact List.Sublist.refl _ | apply List.Sublist.cons), by first | contradiction | exact tt_t ⟨z0, ‹_›, by omega, by assumption, by assumption, by omega, fun j h => hall j h (by omega)⟩ | exact tt_f fun ⟨a0, a1, a2, a3, a4, a5, a6⟩ => by first | omega | contradiction | (obtain ⟨x1, x2, x3⟩ := a6 i (by omega); first | omega | (rw [List.any_eq_false] at x3; have x4 := x3 _ (List.getElem_mem z7); simp_all) | simp_all), rfl⟩
                  ·
                    have k8 := bp h8
                    refine AW.exit ?_
                    repeat with_reducible refine thn_exit ?_
                    refine inb_exit ?_
                    refine AW.seq ?_
                    refine AW.region ?_
                    refine st V.assign ?_
                    refine sn ?_
                    refine AW.ret ?_
                    repeat with_reducible first | refine thn_ret ?_ | refine inb_ret ?_
                    refine fin (Res.i1 rfl) ?_
                    exact ⟨_, (by repeat first | exact List.Sublist.refl _ | apply List.Sublist.cons), by first | contradiction | exact tt_t ⟨z0, ‹_›, by omega, by assumption, by assumption, by omega, fun j h => hall j h (by omega)⟩ | exact tt_f fun ⟨a0, a1, a2, a3, a4, a5, a6⟩ => by first | omega | contradiction | (obtain ⟨x1, x2, x3⟩ := a6 i (by omega); first | omega | (rw [List.any_eq_false] at x3; have x4 := x3 _ (List.getElem_mem z7); simp_all) | simp_all), rfl⟩
              ·
                have k6 := bp h6
                refine off rfl h6 ?_
                refine off rfl h6 ?_
                refine off rfl h6 ?_
                refine st (V.pT h6) ?_
                refine sn ?_
                refine cond (fun _ => ?_) (fun h => by cases h)
                refine AW.seq ?_
                refine AW.region ?_
                refine st V.assign ?_
                refine sn ?_
                refine AW.ret ?_
                repeat with_reducible first | refine thn_ret ?_ | refine inb_ret ?_
                refine fin (Res.i1 rfl) ?_
                exact ⟨_, (by repeat first | exact List.Sublist.refl _ | apply List.Sublist.cons), by first | contradiction | exact tt_t ⟨z0, ‹_›, by omega, by assumption, by assumption, by omega, fun j h => hall j h (by omega)⟩ | exact tt_f fun ⟨a0, a1, a2, a3, a4, a5, a6⟩ => by first | omega | contradiction | (obtain ⟨x1, x2, x3⟩ := a6 i (by omega); first | omega | (rw [List.any_eq_false] at x3; have x4 := x3 _ (List.getElem_mem z7); simp_all) | simp_all), rfl⟩
            ·
              have k5 := bp h5
              refine off rfl h5 ?_
              refine off rfl h5 ?_
              refine off rfl h5 ?_
              refine st (V.pT h5) ?_
              refine st V.move ?_
              refine off rfl rfl ?_
              refine off rfl rfl ?_
              refine off rfl rfl ?_
              refine off rfl rfl ?_
              refine st (V.pT rfl) ?_
              refine sn ?_
              refine cond (fun _ => ?_) (fun h => by cases h)
              refine AW.seq ?_
              refine AW.region ?_
              refine st V.assign ?_
              refine sn ?_
              refine AW.ret ?_
              repeat with_reducible first | refine thn_ret ?_ | refine inb_ret ?_
              refine fin (Res.i1 rfl) ?_
              exact ⟨_, (by repeat first | exact List.Sublist.refl _ | apply List.Sublist.cons), by first | contradiction | exact tt_t ⟨z0, ‹_›, by omega, by assumption, by assumption, by omega, fun j h => hall j h (by omega)⟩ | exact tt_f fun ⟨a0, a1, a2, a3, a4, a5, a6⟩ => by first | omega | contradiction | (obtain ⟨x1, x2, x3⟩ := a6 i (by omega); first | omega | (rw [List.any_eq_false] at x3; have x4 := x3 _ (List.getElem_mem z7); simp_all) | simp_all), rfl⟩
          ·
            have k4 := bp h4
            refine off rfl h4 ?_
            refine off rfl h4 ?_
            refine st (V.pT h4) ?_
            refine st V.move ?_
            refine off rfl rfl ?_
            refine off rfl rfl ?_
            refine off rfl rfl ?_
            refine off rfl rfl ?_
            refine st (V.pT rfl) ?_
            refine st V.move ?_
            refine off rfl rfl ?_
            refine off rfl rfl ?_
            refine off rfl rfl ?_
            refine off rfl rfl ?_
            refine st (V.pT rfl) ?_
            refine sn ?_
            refine cond (fun _ => ?_) (fun h => by cases h)
            refine AW.seq ?_
            refine AW.region ?_
            refine st V.assign ?_
            refine sn ?_
            refine AW.ret ?_
            repeat with_reducible first | refine thn_ret ?_ | refine inb_ret ?_
            refine fin (Res.i1 rfl) ?_
            exact ⟨_, (by repeat first | exact List.Sublist.refl _ | apply List.Sublist.cons), by first | contradiction | exact tt_t ⟨z0, ‹_›, by omega, by assumption, by assumption, by omega, fun j h => hall j h (by omega)⟩ | exact tt_f fun ⟨a0, a1, a2, a3, a4, a5, a6⟩ => by first | omega | contradiction | (obtain ⟨x1, x2, x3⟩ := a6 i (by omega); first | omega | (rw [List.any_eq_false] at x3; have x4 := x3 _ (List.getElem_mem z7); simp_all) | simp_all), rfl⟩
        ·
          refine D.p rfl rfl V.move ?_
          refine D.p rfl rfl (V.ib 0 rfl z0 hA) ?_
          refine D.p rfl rfl V.fa ?_
          refine D.p rfl rfl V.ld ?_
          refine D.p rfl rfl (V.ib 0 rfl (by omega) hA0) ?_
          refine D.p rfl rfl V.ldA ?_
          refine D.p rfl rfl V.move ?_
          refine D.p rfl rfl (V.ib 0 rfl z0 hA) ?_
          refine D.p rfl rfl V.fa ?_
          refine D.p rfl rfl V.ld ?_
          refine D.p rfl rfl (V.ib 1 rfl (by omega) hA1) ?_
          refine D.p rfl rfl V.ldA ?_
          refine D.e rfl rfl (S.alloc ?_); intro b4
          refine D.e rfl rfl (S.alloc ?_); intro b3
          refine D.e rfl rfl (S.storeA rfl ?_)
          refine D.e rfl rfl (S.storeA rfl ?_)
          refine D.nl ?_
          refine AW.seq ?_
          refine AW.seq ?_
          refine AW.region ?_
          refine st V.fa0 ?_
          first | refine st V.ld ?_ | refine sq V.lo ?_
          refine st V.nes ?_
          refine st V.move ?_
          refine onoff true rfl rfl (fun h17 => ?_) (fun h17 => ?_)
          ·
            have k17 := bp h17
            refine st V.fa0 ?_
            refine on rfl h17 ?_
            first | refine st V.ld ?_ | refine sq V.lo ?_
            refine on rfl h17 ?_
            refine st V.nes ?_
            refine st (V.pF h17) ?_
            refine st V.move ?_
            refine onoff true rfl rfl (fun h18 => ?_) (fun h18 => ?_)
            ·
              have k18 := bp h18
              refine st V.faz ?_
              refine on rfl h18 ?_
              first | refine st V.ld ?_ | refine sq V.lo ?_
              refine on rfl h18 ?_
              refine st V.len ?_
              refine on rfl h18 ?_
              refine st V.gtr ?_
              refine st (V.pF h18) ?_
              refine st V.move ?_
              refine onoff true rfl rfl (fun h19 => ?_) (fun h19 => ?_)
              ·
                have k19 := bp h19
                refine st V.faz ?_
                refine on rfl h19 ?_
                first | refine st V.ld ?_ | refine sq V.lo ?_
                refine on rfl h19 ?_
                refine st V.len ?_
                refine on rfl h19 ?_
                refine st V.gtr ?_
                refine st (V.pF h19) ?_
                refine sn ?_
                refine cond (fun h20 => ?_) (fun h20 => ?_)
                ·
                  have k20 := bp h20
                  refine AW.seq ?_
                  refine AW.region ?_
                  refine st V.assign ?_
                  refine sn ?_
                  refine AW.ret ?_
                  repeat with_reducible first | refine thn_ret ?_ | refine inb_ret ?_
                  refine fin (Res.i1 rfl) ?_
                  exact ⟨_, (by repeat first | exact List.Sublist.refl _ | apply List.Sublist.cons), by first | contradiction | exact tt_t ⟨z0, ‹_›, by omega, by assumption, by assumption, by omega, fun j h => hall j h (by omega)⟩ | exact tt_f fun ⟨a0, a1, a2, a3, a4, a5, a6⟩ => by first | omega | contradiction | (obtain ⟨x1, x2, x3⟩ := a6 i (by omega); first | omega | (rw [List.any_eq_false] at x3; have x4 := x3 _ (List.getElem_mem z7); simp_all) | simp_all), rfl⟩
                ·
                  have k20 := bp h20
                  refine AW.skip ?_
                  refine AW.seq ?_
                  refine AW.seq ?_
                  refine AW.region ?_
                  refine st V.assign ?_
                  refine sn ?_
                  refine AW.block ?_
                  refine AW.drop (H' := H) (by repeat first | exact List.Sublist.refl _ | apply List.Sublist.cons) ?_
                  refine AW.loopL [5] (2 :: 6 :: 57 :: 58 :: 59 :: 60 :: 61 :: 62 :: 63 :: 64 :: 65 :: 66 :: 67 :: 68 :: 69 :: 70 :: 71 :: 72 :: 73 :: 74 :: 75 :: 76 :: 77 :: 78 :: 79 :: 80 :: 81 :: 82 :: 83 :: 84 :: 85 :: 86 :: 87 :: 88 :: 89 :: 90 :: 91 :: 92 :: 93 :: 94 :: 95 :: 96 :: 97 :: 98 :: 99 :: []) (fun n vs M' H' => ∃ i : Nat, vs = [.int .i64 (i : Int)] ∧ H' = H ∧ i + n = d.length ∧ (∀ j (h : j < d.length), j < i → OkD d[j])) (d.length) (⟨0, rfl, rfl, by omega, fun j _ h => by omega⟩) ?_
                  intro n Ml Hl iL u5 hI u2 u6 u57 u58 u59 u60 u61 u62 u63 u64 u65 u66 u67 u68 u69 u70 u71 u72 u73 u74 u75 u76 u77 u78 u79 u80 u81 u82 u83 u84 u85 u86 u87 u88 u89 u90 u91 u92 u93 u94 u95 u96 u97 u98 u99
                  obtain ⟨i, hv, hH, hi, hall⟩ := hI
                  obtain rfl := hH.symm
                  cases hv
                  refine sa ?_
                  refine AW.seq ?_
                  refine AW.seq ?_
                  refine AW.region ?_
                  refine st V.move ?_
                  refine st V.move ?_
                  refine st V.len ?_
                  refine st V.lss ?_
                  refine sn ?_
                  refine cond (fun h21 => ?_) (fun h21 => ?_)
                  ·
                    have k21 := bp h21
                    refine AW.skip ?_
                    refine AW.seq ?_
                    refine AW.block ?_
                    refine AW.seq ?_
                    refine AW.seq ?_
                    have z4 : i < d.length := by omega
                    obtain ⟨b8, o8, hA8, i0, ib0, A8, c8, i1, i2⟩ := (hd.upD (M' := Ml)).at i z4
                    have hbd2 := i2.bd
                    refine AW.region ?_
                    refine st V.move ?_
                    refine st V.move ?_
                    refine st (V.ib i rfl z4 hA8) ?_
                    refine st V.fa0 ?_
                    first | refine st V.ld ?_ | refine sq V.lo ?_
                    refine se (S.call ?_)
                    refine (r_name_c _ _ _ ib0).use ?_
                    rintro v N G iz ⟨rfl, hG⟩
                    obtain rfl := hG.symm
                    refine st V.not ?_
                    refine st V.move ?_
                    refine onoff true rfl rfl (fun h22 => ?_) (fun h22 => ?_)
                    ·
                      have k22 := bp h22
                      refine st V.move ?_
                      refine on rfl h22 ?_
                      refine st V.move ?_
                      refine on rfl h22 ?_
                      refine st (V.ib i rfl z4 hA8) ?_
                      refine on rfl h22 ?_
                      refine st V.fa ?_
                      refine on rfl h22 ?_
                      first | refine st V.ld ?_ | refine sq V.lo ?_
                      refine on rfl h22 ?_
                      refine st V.len ?_
                      refine on rfl h22 ?_
                      refine st V.eql ?_
                      refine st (V.pF h22) ?_
                      refine sn ?_
                      refine cond (fun h23 => ?_) (fun h23 => ?_)
                      ·
                        have k23 := bp h23
                        refine AW.seq ?_
                        refine AW.region ?_
                        refine st V.assign ?_
                        refine sn ?_
                        refine AW.ret ?_
                        repeat with_reducible first | refine thn_ret ?_ | refine inb_ret ?_
                        refine fin (Res.i1 rfl) ?_
                        exact ⟨_, (by repeat first | exact List.Sublist.refl _ | apply List.Sublist.cons), by first | contradiction | exact tt_t ⟨z0, ‹_›, by omega, by assumption, by assumption, by omega, fun j h => hall j h (by omega)⟩ | exact tt_f fun ⟨a0, a1, a2, a3, a4, a5, a6⟩ => by first | omega | contradiction | (obtain ⟨x1, x2, x3⟩ := a6 i (by omega); first | omega | (rw [List.any_eq_false] at x3; have x4 := x3 _ (List.getElem_mem z7); simp_all) | simp_all), rfl⟩
                      ·
                        have k23 := bp h23
                        refine AW.skip ?_
                        refine AW.seq ?_
                        have hnm : nameF d[i].name = true := by assumption
                        refine AW.region ?_
                        refine st V.assign ?_
                        refine sn ?_
                        refine AW.block ?_
                        refine AW.loopL [6] (2 :: 79 :: 80 :: 81 :: 82 :: 83 :: 84 :: 85 :: 86 :: 87 :: 88 :: 89 :: 90 :: 91 :: 92 :: 93 :: 94 :: 95 :: 96 :: 97 :: 98 :: 99 :: []) (fun n vs M' H' => ∃ j : Nat, vs = [.int .i64 (j : Int)] ∧ H' = H ∧ j + n = d[i].cons.length ∧ (∀ k (h : k < d[i].cons.length), k < j → nameF d[i].cons[k].name = true)) (d[i].cons.length) (⟨0, rfl, rfl, by omega, fun k _ h => by omega⟩) ?_
                        intro n1 Ml1 Hl1 iL1 u6 hI1 u2 u79 u80 u81 u82 u83 u84 u85 u86 u87 u88 u89 u90 u91 u92 u93 u94 u95 u96 u97 u98 u99
                        obtain ⟨j, hv, hH, hj, hall1⟩ := hI1
                        obtain rfl := hH.symm
                        cases hv
                        refine sa ?_
                        refine AW.seq ?_
                        refine AW.seq ?_
                        refine AW.region ?_
                        refine st V.move ?_
                        refine st V.move ?_
                        refine st V.move ?_
                        refine st (V.ib i rfl z4 hA8) ?_
                        refine st V.fa ?_
                        first | refine st V.ld ?_ | refine sq V.lo ?_
                        refine st V.len ?_
                        refine st V.lss ?_
                        refine sn ?_
                        refine cond (fun h24 => ?_) (fun h24 => ?_)
                        ·
                          have k24 := bp h24
                          refine AW.skip ?_
                          refine AW.seq ?_
                          refine AW.block ?_
                          refine AW.seq ?_
                          have z7 : j < d[i].cons.length := by omega
                          obtain ⟨b7, o7, hA7, j0, jb0, A7, c7, q1, q2⟩ := (i2.upC (M' := Ml1)).at j z7
                          refine AW.region ?_
                          refine st V.move ?_
                          refine st V.move ?_
                          refine st (V.ib i rfl z4 hA8) ?_
                          refine st V.fa ?_
                          first | refine st V.ld ?_ | refine sq V.lo ?_
                          refine st V.move ?_
                          refine st (V.ib j rfl z7 hA7) ?_
                          refine st V.fa0 ?_
                          first | refine st V.ld ?_ | refine sq V.lo ?_
                          refine se (S.call ?_)
                          refine (r_name_c _ _ _ jb0).use ?_
                          rintro v9 N9 G9 iz9 ⟨rfl, hG⟩
                          obtain rfl := hG.symm
                          refine st V.not ?_
                          refine sn ?_
                          refine cond (fun h25 => ?_) (fun h25 => ?_)
                          ·
                            have k25 := bp h25
                            refine AW.seq ?_
                            refine AW.region ?_
                            refine st V.assign ?_
                            refine sn ?_
                            refine AW.ret ?_
                            repeat with_reducible first | refine thn_ret ?_ | refine inb_ret ?_
                            refine fin (Res.i1 rfl) ?_
                            exact ⟨_, (by repeat first | exact List.Sublist.refl _ | apply List.Sublist.cons), by first | contradiction | exact tt_t ⟨z0, ‹_›, by omega, by assumption, by assumption, by omega, fun j h => hall j h (by omega)⟩ | exact tt_f fun ⟨a0, a1, a2, a3, a4, a5, a6⟩ => by first | omega | contradiction | (obtain ⟨x1, x2, x3⟩ := a6 i (by omega); first | omega | (rw [List.any_eq_false] at x3; have x4 := x3 _ (List.getElem_mem z7); simp_all) | simp_all), rfl⟩
                          ·
                            have k25 := bp h25
                            refine AW.skip ?_
                            refine AW.region ?_
                            refine st V.move ?_
                            refine st (V.add64 (by omega)) ?_
                            refine st V.assign ?_
                            refine sn ?_
                            repeat with_reducible refine inb_normal ?_
                            refine thn_normal ?_
                            refine rnd (n1 - 1) _ (by omega) (List.Sublist.refl _) ⟨j + 1, by simp, rfl, by omega, fun k hk hkj => ?_⟩
                            rcases Nat.lt_or_ge k j with h | h
                            · exact hall1 k hk h
                            · obtain rfl : k = j := by omega
                              assumption
                        ·
                          have k24 := bp h24
                          refine AW.exit ?_
                          repeat with_reducible refine thn_exit ?_
                          refine inb_exit ?_
                          refine AW.region ?_
                          refine st V.move ?_
                          refine st (V.add64 (by omega)) ?_
                          refine st V.assign ?_
                          refine sn ?_
                          repeat with_reducible refine inb_normal ?_
                          refine thn_normal ?_
                          refine rnd (n - 1) _ (by omega) (List.Sublist.refl _) ⟨i + 1, by simp, rfl, by omega, fun k hk hki => ?_⟩
                          rcases Nat.lt_or_ge k i with h | h
                          · exact hall k hk h
                          · obtain rfl : k = i := by omega
                            exact ⟨hnm, by omega, any_none fun j' hj' => by rw [hall1 j' hj' (by omega)]; rfl⟩
                    ·
                      have k22 := bp h22
                      refine off rfl h22 ?_
                      refine off rfl h22 ?_
                      refine off rfl h22 ?_
                      refine off rfl h22 ?_
                      refine off rfl h22 ?_
                      refine off rfl h22 ?_
                      refine st (V.pT h22) ?_
                      refine sn ?_
                      refine cond (fun _ => ?_) (fun h => by cases h)
                      refine AW.seq ?_
                      refine AW.region ?_
                      refine st V.assign ?_
                      refine sn ?_
                      refine AW.ret ?_
                      repeat with_reducible first | refine thn_ret ?_ | refine inb_ret ?_
                      refine fin (Res.i1 rfl) ?_
                      exact ⟨_, (by repeat first | exact List.Sublist.refl _ | apply List.Sublist.cons), by first | contradiction | exact tt_t ⟨z0, ‹_›, by omega, by assumption, by assumption, by omega, fun j h => hall j h (by omega)⟩ | exact tt_f fun ⟨a0, a1, a2, a3, a4, a5, a6⟩ => by first | omega | contradiction | (obtain ⟨x1, x2, x3⟩ := a6 i (by omega); first | omega | (rw [List.any_eq_false] at x3; have x4 := x3 _ (List.getElem_mem z7); simp_all) | simp_all), rfl⟩
                  ·
                    have k21 := bp h21
                    refine AW.exit ?_
                    repeat with_reducible refine thn_exit ?_
                    refine inb_exit ?_
                    refine AW.seq ?_
                    refine AW.region ?_
                    refine st V.assign ?_
                    refine sn ?_
                    refine AW.ret ?_
                    repeat with_reducible first | refine thn_ret ?_ | refine inb_ret ?_
                    refine fin (Res.i1 rfl) ?_
                    exact ⟨_, (by repeat first | exact List.Sublist.refl _ | apply List.Sublist.cons), by first | contradiction | exact tt_t ⟨z0, ‹_›, by omega, by assumption, by assumption, by omega, fun j h => hall j h (by omega)⟩ | exact tt_f fun ⟨a0, a1, a2, a3, a4, a5, a6⟩ => by first | omega | contradiction | (obtain ⟨x1, x2, x3⟩ := a6 i (by omega); first | omega | (rw [List.any_eq_false] at x3; have x4 := x3 _ (List.getElem_mem z7); simp_all) | simp_all), rfl⟩
              ·
                have k19 := bp h19
                refine off rfl h19 ?_
                refine off rfl h19 ?_
                refine off rfl h19 ?_
                refine st (V.pT h19) ?_
                refine sn ?_
                refine cond (fun _ => ?_) (fun h => by cases h)
                refine AW.seq ?_
                refine AW.region ?_
                refine st V.assign ?_
                refine sn ?_
                refine AW.ret ?_
                repeat with_reducible first | refine thn_ret ?_ | refine inb_ret ?_
                refine fin (Res.i1 rfl) ?_
                exact ⟨_, (by repeat first | exact List.Sublist.refl _ | apply List.Sublist.cons), by first | contradiction | exact tt_t ⟨z0, ‹_›, by omega, by assumption, by assumption, by omega, fun j h => hall j h (by omega)⟩ | exact tt_f fun ⟨a0, a1, a2, a3, a4, a5, a6⟩ => by first | omega | contradiction | (obtain ⟨x1, x2, x3⟩ := a6 i (by omega); first | omega | (rw [List.any_eq_false] at x3; have x4 := x3 _ (List.getElem_mem z7); simp_all) | simp_all), rfl⟩
            ·
              have k18 := bp h18
              refine off rfl h18 ?_
              refine off rfl h18 ?_
              refine off rfl h18 ?_
              refine st (V.pT h18) ?_
              refine st V.move ?_
              refine off rfl rfl ?_
              refine off rfl rfl ?_
              refine off rfl rfl ?_
              refine off rfl rfl ?_
              refine st (V.pT rfl) ?_
              refine sn ?_
              refine cond (fun _ => ?_) (fun h => by cases h)
              refine AW.seq ?_
              refine AW.region ?_
              refine st V.assign ?_
              refine sn ?_
              refine AW.ret ?_
              repeat with_reducible first | refine thn_ret ?_ | refine inb_ret ?_
              refine fin (Res.i1 rfl) ?_
              exact ⟨_, (by repeat first | exact List.Sublist.refl _ | apply List.Sublist.cons), by first | contradiction | exact tt_t ⟨z0, ‹_›, by omega, by assumption, by assumption, by omega, fun j h => hall j h (by omega)⟩ | exact tt_f fun ⟨a0, a1, a2, a3, a4, a5, a6⟩ => by first | omega | contradiction | (obtain ⟨x1, x2, x3⟩ := a6 i (by omega); first | omega | (rw [List.any_eq_false] at x3; have x4 := x3 _ (List.getElem_mem z7); simp_all) | simp_all), rfl⟩
          ·
            have k17 := bp h17
            refine off rfl h17 ?_
            refine off rfl h17 ?_
            refine st (V.pT h17) ?_
            refine st V.move ?_
            refine off rfl rfl ?_
            refine off rfl rfl ?_
            refine off rfl rfl ?_
            refine off rfl rfl ?_
            refine st (V.pT rfl) ?_
            refine st V.move ?_
            refine off rfl rfl ?_
            refine off rfl rfl ?_
            refine off rfl rfl ?_
            refine off rfl rfl ?_
            refine st (V.pT rfl) ?_
            refine sn ?_
            refine cond (fun _ => ?_) (fun h => by cases h)
            refine AW.seq ?_
            refine AW.region ?_
            refine st V.assign ?_
            refine sn ?_
            refine AW.ret ?_
            repeat with_reducible first | refine thn_ret ?_ | refine inb_ret ?_
            refine fin (Res.i1 rfl) ?_
            exact ⟨_, (by repeat first | exact List.Sublist.refl _ | apply List.Sublist.cons), by first | contradiction | exact tt_t ⟨z0, ‹_›, by omega, by assumption, by assumption, by omega, fun j h => hall j h (by omega)⟩ | exact tt_f fun ⟨a0, a1, a2, a3, a4, a5, a6⟩ => by first | omega | contradiction | (obtain ⟨x1, x2, x3⟩ := a6 i (by omega); first | omega | (rw [List.any_eq_false] at x3; have x4 := x3 _ (List.getElem_mem z7); simp_all) | simp_all), rfl⟩
    ·
      have k2 := bp h2
      refine off rfl h2 ?_
      refine off rfl h2 ?_
      refine off rfl h2 ?_
      refine off rfl h2 ?_
      refine off rfl h2 ?_
      refine st (V.pT h2) ?_
      refine sn ?_
      refine cond (fun _ => ?_) (fun h => by cases h)
      refine AW.seq ?_
      refine AW.region ?_
      refine st V.assign ?_
      refine sn ?_
      refine AW.ret ?_
      repeat with_reducible first | refine thn_ret ?_ | refine inb_ret ?_
      refine fin (Res.i1 rfl) ?_
      exact ⟨_, (by repeat first | exact List.Sublist.refl _ | apply List.Sublist.cons), by first | contradiction | exact tt_t ⟨z0, ‹_›, by omega, by assumption, by assumption, by omega, fun j h => hall j h (by omega)⟩ | exact tt_f fun ⟨a0, a1, a2, a3, a4, a5, a6⟩ => by first | omega | contradiction | (obtain ⟨x1, x2, x3⟩ := a6 i (by omega); first | omega | (rw [List.any_eq_false] at x3; have x4 := x3 _ (List.getElem_mem z7); simp_all) | simp_all), rfl⟩
  ·
    have k1 := bp h1
    refine off rfl h1 ?_
    refine off rfl h1 ?_
    refine off rfl h1 ?_
    refine off rfl h1 ?_
    refine st (V.pT h1) ?_
    refine st V.move ?_
    refine off rfl rfl ?_
    refine off rfl rfl ?_
    refine off rfl rfl ?_
    refine off rfl rfl ?_
    refine off rfl rfl ?_
    refine off rfl rfl ?_
    refine st (V.pT rfl) ?_
    refine sn ?_
    refine cond (fun _ => ?_) (fun h => by cases h)
    refine AW.seq ?_
    refine AW.region ?_
    refine st V.assign ?_
    refine sn ?_
    refine AW.ret ?_
    repeat with_reducible first | refine thn_ret ?_ | refine inb_ret ?_
    refine fin (Res.i1 rfl) ?_
    exact ⟨_, (by repeat first | exact List.Sublist.refl _ | apply List.Sublist.cons), by first | contradiction | exact tt_t ⟨z0, ‹_›, by omega, by assumption, by assumption, by omega, fun j h => hall j h (by omega)⟩ | exact tt_f fun ⟨a0, a1, a2, a3, a4, a5, a6⟩ => by first | omega | contradiction | (obtain ⟨x1, x2, x3⟩ := a6 i (by omega); first | omega | (rw [List.any_eq_false] at x3; have x4 := x3 _ (List.getElem_mem z7); simp_all) | simp_all), rfl⟩
set_option maxHeartbeats 1600000 in
set_option synthInstance.maxHeartbeats 400000 in
set_option synthInstance.maxSize 100000 in
set_option maxRecDepth 100000 in
theorem r_in_c (M : Mem) (H : Heap) (A : Option Addr) (c r : Nat) (l : List ByteArray) (hr : H[r]? = some (.row A l.length c 9 1 (l.map .string))) (hb : l.length ≤ 1000000) (s : ByteArray) :
    AC Tryz.prog 88 [.slice A l.length c, .string s] M H fun v _ H' => v = .bool (tt (s ∈ l)) ∧ H' = H := by
  refine AC.fact (0 < l.length → ∃ b, A = some ⟨b, 0, none⟩) (fun g w hS => (hS.rowA r hr).2.2.2) fun hA => ?_
  refine AC.of (n := 16) Tryz.func88 rfl rfl ?_
  dsimp only [List.replicate, List.cons_append, List.nil_append]
  refine AW.seq ?_
  refine AW.region ?_
  refine st V.assign ?_
  refine sn ?_
  refine AW.seq ?_
  refine AW.seq ?_
  refine AW.region ?_
  refine st V.assign ?_
  refine sn ?_
  refine AW.block ?_
  refine AW.loopL [5] (4 :: 6 :: 7 :: 8 :: 9 :: 10 :: 11 :: 12 :: 13 :: 14 :: 15 :: 16 :: 17 :: []) (fun n vs M' H' => ∃ i : Nat, vs = [.int .i64 (i : Int)] ∧ H' = H ∧ i + n = l.length ∧ (∀ k (h : k < l.length), k < i → l[k] ≠ s)) (l.length) (⟨0, rfl, rfl, by omega, fun j _ h => by omega⟩) ?_
  intro n Ml Hl iL u5 hI u4 u6 u7 u8 u9 u10 u11 u12 u13 u14 u15 u16 u17
  obtain ⟨i, hv, hH, hi, hall⟩ := hI
  obtain rfl := hH.symm
  cases hv
  refine sa ?_
  refine AW.seq ?_
  refine AW.seq ?_
  refine AW.region ?_
  refine st V.move ?_
  refine st V.move ?_
  refine st V.len ?_
  refine st V.lss ?_
  refine sn ?_
  refine cond (fun h1 => ?_) (fun h1 => ?_)
  ·
    have k1 := bp h1
    refine AW.skip ?_
    refine AW.seq ?_
    refine AW.block ?_
    refine AW.seq ?_
    have z4 : i < l.length := by omega
    obtain ⟨g, hg⟩ := hA (by omega)
    subst hg
    refine AW.region ?_
    refine st V.move ?_
    refine st V.move ?_
    refine st (V.ib i rfl z4 rfl) ?_
    refine sq (V.lr (v := .string l[i]) r hr (by simp [z4])) ?_
    refine st V.move ?_
    refine st V.eqs ?_
    refine sn ?_
    refine cond (fun h2 => ?_) (fun h2 => ?_)
    ·
      have k2 := bp h2
      refine AW.seq ?_
      refine AW.region ?_
      refine st V.assign ?_
      refine sn ?_
      refine AW.ret ?_
      repeat with_reducible first | refine thn_ret ?_ | refine inb_ret ?_
      refine fin (Res.i1 rfl) ?_
      exact ⟨_, (by repeat first | exact List.Sublist.refl _ | apply List.Sublist.cons), tt_t (by rw [← k2]; exact List.getElem_mem z4), rfl⟩
    ·
      have k2 := bp h2
      refine AW.skip ?_
      refine AW.region ?_
      refine st V.move ?_
      refine st (V.add64 (by omega)) ?_
      refine st V.assign ?_
      refine sn ?_
      repeat with_reducible refine inb_normal ?_
      refine thn_normal ?_
      refine rnd (n - 1) _ (by omega) (List.Sublist.refl _) ⟨i + 1, by simp, rfl, by omega, fun k hk hki => ?_⟩
      rcases Nat.lt_or_ge k i with h | h
      · exact hall k hk h
      · obtain rfl : k = i := by omega
        exact k2
  ·
    have k1 := bp h1
    refine AW.exit ?_
    repeat with_reducible refine thn_exit ?_
    refine inb_exit ?_
    refine AW.seq ?_
    refine AW.region ?_
    refine st V.assign ?_
    refine sn ?_
    refine AW.ret ?_
    repeat with_reducible first | refine thn_ret ?_ | refine inb_ret ?_
    refine fin (Res.i1 rfl) ?_
    exact ⟨_, (by repeat first | exact List.Sublist.refl _ | apply List.Sublist.cons), tt_f (fun hm => by obtain ⟨k, hk, e⟩ := List.getElem_of_mem hm; exact hall k hk (by omega) e), rfl⟩
end Go.Proofs.YtieaiheejhmbfaaGreatDoor.ML
/- Walks of functions of the program, in the abstract layer. No conditions. -/
namespace Go.Proofs.YtieaiheejhmbfaaGreatDoor.ML
open Go.RowKit
set_option linter.unusedVariables false
set_option linter.unusedSimpArgs false
set_option maxHeartbeats 1600000 in
set_option synthInstance.maxHeartbeats 400000 in
set_option synthInstance.maxSize 100000 in
set_option maxRecDepth 100000 in
theorem r_twice_c (M : Mem) (H : Heap) (A : Option Addr) (c : Nat) (d : List DT) (hd : RdS 2 (RdD M) A c d) (hmb : d.length ≤ 64 ∧ ∀ p (hp : p < d.length), d[p].cons.length ≤ 16) :
    AC Tryz.prog 64 [.slice A d.length c] M H fun v _ H' => v = .bool (tt (TwiceP d)) ∧ H' = H := by
  refine AC.of (n := 63) Tryz.func64 rfl rfl ?_
  dsimp only [List.replicate, List.cons_append, List.nil_append]
  refine AW.seq ?_
  refine AW.region ?_
  refine st V.assign ?_
  refine sn ?_
  refine AW.seq ?_
  refine AW.region ?_
  refine st V.assign ?_
  refine st V.assign ?_
  refine sn ?_
  refine AW.seq ?_
  have hbd := hd.bd
  refine AW.row0 9 1 ?_
  refine AW.row0 9 1 ?_
  refine AW.region ?_
  refine st V.move ?_
  refine se (S.lit1 (by rfl) (by decide) ?_); intro g8
  refine se (S.ap1 (by rfl) (by omega) (by omega) ?_)
  intro A9 c9
  refine st V.assign ?_
  refine sn ?_
  refine AW.seq ?_
  refine AW.seq ?_
  refine AW.region ?_
  refine st V.assign ?_
  refine sn ?_
  refine AW.block ?_
  refine AW.loopL [3, 4, 5] (2 :: 6 :: 10 :: 11 :: 12 :: 13 :: 14 :: 15 :: 16 :: 17 :: 18 :: 19 :: 20 :: 21 :: 22 :: 23 :: 24 :: 25 :: 26 :: 27 :: 28 :: 29 :: 30 :: 31 :: 32 :: 33 :: 34 :: 35 :: 36 :: 37 :: 38 :: 39 :: 40 :: 41 :: 42 :: 43 :: 44 :: 45 :: 46 :: 47 :: 48 :: 49 :: 50 :: 51 :: 52 :: 53 :: 54 :: 55 :: 56 :: 57 :: 58 :: 59 :: 60 :: 61 :: 62 :: 63 :: []) (fun n vs M' H' => ∃ (i : Nat) (A1 : Option Addr) (c1 : Nat) (A2 : Option Addr) (c2 : Nat) (l1 l2 : List ByteArray), vs = [.slice A1 l1.length c1, .slice A2 l2.length c2, .int .i64 (i : Int)] ∧ H' = .row A1 (l1).length c1 9 1 ((l1).map .string) :: .row A2 (l2).length c2 9 1 ((l2).map .string) :: H ∧ l1 = nmL (d.take i) ∧ l2 = cnL (d.take i) ∧ i + n = d.length ∧ l1.Nodup ∧ l2.Nodup) (d.length) (⟨0, A9, c9, none, 0, [sInt], [], rfl, rfl, by simp [nmL], by simp [cnL], by omega, by simp, by simp⟩) ?_
  intro n Ml Hl iL u3 u4 u5 hI u2 u6 u10 u11 u12 u13 u14 u15 u16 u17 u18 u19 u20 u21 u22 u23 u24 u25 u26 u27 u28 u29 u30 u31 u32 u33 u34 u35 u36 u37 u38 u39 u40 u41 u42 u43 u44 u45 u46 u47 u48 u49 u50 u51 u52 u53 u54 u55 u56 u57 u58 u59 u60 u61 u62 u63
  obtain ⟨i, A1, c1, A2, c2, l1, l2, hv, hH, e1, e2, hi, hn1, hn2⟩ := hI
  subst hH
  cases hv
  refine sa ?_
  refine AW.seq ?_
  refine AW.seq ?_
  refine AW.region ?_
  refine st V.move ?_
  refine st V.move ?_
  refine st V.len ?_
  refine st V.lss ?_
  refine sn ?_
  refine cond (fun h1 => ?_) (fun h1 => ?_)
  ·
    have k1 := bp h1
    refine AW.skip ?_
    refine AW.seq ?_
    refine AW.block ?_
    refine AW.seq ?_
    refine AW.seq ?_
    have z4 : i < d.length := by omega
    obtain ⟨b8, o8, hA8, i0, ib0, A8, c8, i1, i2⟩ := (hd.upD (M' := Ml)).at i z4
    have hbd2 := i2.bd
    have hl1 : l1.length ≤ 100 := by rw [e1, nmL]; simp; omega
    have hl2 : l2.length ≤ 2000 := by rw [e2]; have := cn_bd (d := d.take i) (fun x hx => by obtain ⟨k, hk, rfl⟩ := List.getElem_of_mem (List.mem_of_mem_take hx); exact hmb.2 k hk); simp at this; omega
    refine AW.region ?_
    refine st V.move ?_
    refine st V.move ?_
    refine st V.move ?_
    refine st (V.ib i rfl z4 hA8) ?_
    refine st V.fa0 ?_
    first | refine st V.ld ?_ | refine sq V.lo ?_
    refine se (S.call ?_)
    refine (r_in_c _ _ A1 c1 0 l1 rfl (by omega) _).use ?_
    rintro v N G iz ⟨rfl, hG⟩
    obtain rfl := hG.symm
    refine sn ?_
    refine cond (fun h2 => ?_) (fun h2 => ?_)
    ·
      have k2 := bp h2
      refine AW.seq ?_
      refine AW.region ?_
      refine st V.assign ?_
      refine sn ?_
      refine AW.ret ?_
      repeat with_reducible first | refine thn_ret ?_ | refine inb_ret ?_
      refine fin (Res.i1 rfl) ?_
      refine ⟨_, (by repeat first | exact List.Sublist.refl _ | apply List.Sublist.cons), tt_t (nm_dup d i z4 (by rw [← e1]; exact tt_eq.1 h2)), rfl⟩
    ·
      have k2 := bp h2
      refine AW.skip ?_
      refine AW.seq ?_
      have z5 : d[i].name ∉ l1 := fun hm => by rw [tt_true hm] at h2; cases h2
      have hm1 := nodup_push hn1 z5
      refine AW.region ?_
      refine st V.move ?_
      refine st V.move ?_
      refine st V.move ?_
      refine st (V.ib i rfl z4 hA8) ?_
      refine st V.fa0 ?_
      first | refine st V.ld ?_ | refine sq V.lo ?_
      refine se (S.lit1 (by rfl) (by decide) ?_); intro g29
      refine se (S.ap1 (by rfl) (by omega) (by omega) ?_)
      intro A5 c5
      refine st V.assign ?_
      refine sn ?_
      refine AW.seq ?_
      refine AW.region ?_
      refine st V.assign ?_
      refine sn ?_
      refine AW.block ?_
      refine AW.loopL [4, 6] (2 :: 31 :: 32 :: 33 :: 34 :: 35 :: 36 :: 37 :: 38 :: 39 :: 40 :: 41 :: 42 :: 43 :: 44 :: 45 :: 46 :: 47 :: 48 :: 49 :: 50 :: 51 :: 52 :: 53 :: 54 :: 55 :: 56 :: 57 :: 58 :: 59 :: 60 :: 61 :: 62 :: 63 :: []) (fun n vs M' H' => ∃ (j : Nat) (A3 : Option Addr) (c3 : Nat) (l3 : List ByteArray), vs = [.slice A3 l3.length c3, .int .i64 (j : Int)] ∧ H' = .row A5 (l1 ++ [d[i].name]).length c5 9 1 ((l1 ++ [d[i].name]).map .string) :: .row A3 (l3).length c3 9 1 ((l3).map .string) :: H ∧ l3 = l2 ++ (d[i].cons.take j).map (·.name) ∧ j + n = d[i].cons.length ∧ l3.Nodup) (d[i].cons.length) (⟨0, A2, c2, l2, rfl, by simp, by simp, by omega, hn2⟩) ?_
      intro n1 Ml1 Hl1 iL1 u4 u6 hI1 u2 u31 u32 u33 u34 u35 u36 u37 u38 u39 u40 u41 u42 u43 u44 u45 u46 u47 u48 u49 u50 u51 u52 u53 u54 u55 u56 u57 u58 u59 u60 u61 u62 u63
      obtain ⟨j, A3, c3, l3, hv, hH, e3, hj, hn3⟩ := hI1
      subst hH
      cases hv
      refine sa ?_
      refine AW.seq ?_
      refine AW.seq ?_
      refine AW.region ?_
      refine st V.move ?_
      refine st V.move ?_
      refine st V.move ?_
      refine st (V.ib i rfl z4 hA8) ?_
      refine st V.fa ?_
      first | refine st V.ld ?_ | refine sq V.lo ?_
      refine st V.len ?_
      refine st V.lss ?_
      refine sn ?_
      refine cond (fun h3 => ?_) (fun h3 => ?_)
      ·
        have k3 := bp h3
        refine AW.skip ?_
        refine AW.seq ?_
        refine AW.block ?_
        refine AW.seq ?_
        refine AW.seq ?_
        have z7 : j < d[i].cons.length := by omega
        obtain ⟨b7, o7, hA7, j0, jb0, Aq, cq, q1, q2⟩ := (i2.upC (M' := Ml1)).at j z7
        have hb16 := hmb.2 i z4
        have hl3 : l3.length ≤ 3000 := by rw [e3]; simp; omega
        refine AW.region ?_
        refine st V.move ?_
        refine st V.move ?_
        refine st V.move ?_
        refine st (V.ib i rfl z4 hA8) ?_
        refine st V.fa ?_
        first | refine st V.ld ?_ | refine sq V.lo ?_
        refine st V.move ?_
        refine st (V.ib j rfl z7 hA7) ?_
        refine st V.fa0 ?_
        first | refine st V.ld ?_ | refine sq V.lo ?_
        refine se (S.call ?_)
        refine (r_in_c _ _ A3 c3 1 l3 rfl (by omega) _).use ?_
        rintro v N G iz ⟨rfl, hG⟩
        obtain rfl := hG.symm
        refine sn ?_
        refine cond (fun h4 => ?_) (fun h4 => ?_)
        ·
          have k4 := bp h4
          refine AW.seq ?_
          refine AW.region ?_
          refine st V.assign ?_
          refine sn ?_
          refine AW.ret ?_
          repeat with_reducible first | refine thn_ret ?_ | refine inb_ret ?_
          refine fin (Res.i1 rfl) ?_
          refine ⟨_, (by repeat first | exact List.Sublist.refl _ | apply List.Sublist.cons), tt_t (cn_dup d i z4 j z7 (by rw [← e2, ← e3]; exact tt_eq.1 h4)), rfl⟩
        ·
          have k4 := bp h4
          refine AW.skip ?_
          have z8 : d[i].cons[j].name ∉ l3 := fun hm => by rw [tt_true hm] at h4; cases h4
          refine AW.region ?_
          refine st V.move ?_
          refine st V.move ?_
          refine st V.move ?_
          refine st (V.ib i rfl z4 hA8) ?_
          refine st V.fa ?_
          first | refine st V.ld ?_ | refine sq V.lo ?_
          refine st V.move ?_
          refine st (V.ib j rfl z7 hA7) ?_
          refine st V.fa0 ?_
          first | refine st V.ld ?_ | refine sq V.lo ?_
          refine se (S.lit1 (by rfl) (by decide) ?_); intro g62
          refine se (S.ap1 (by rfl) (by omega) (by omega) ?_)
          intro A7 c7
          refine st V.assign ?_
          refine sn ?_
          refine AW.region ?_
          refine st V.move ?_
          refine st (V.add64 (by omega)) ?_
          refine st V.assign ?_
          refine sn ?_
          repeat with_reducible refine inb_normal ?_
          refine thn_normal ?_
          refine rnd (n1 - 1) _ (by omega) (List.Sublist.refl _) ⟨j + 1, A7, c7, l3 ++ [d[i].cons[j].name], by simp, by simp, ?_, by omega, nodup_push hn3 z8⟩
          rw [take_succ _ _ z7, List.map_append, ← List.append_assoc, ← e3]; rfl
      ·
        have k3 := bp h3
        refine AW.exit ?_
        repeat with_reducible refine thn_exit ?_
        refine inb_exit ?_
        refine AW.region ?_
        refine st V.move ?_
        refine st (V.add64 (by omega)) ?_
        refine st V.assign ?_
        refine sn ?_
        repeat with_reducible refine inb_normal ?_
        refine thn_normal ?_
        have z6 : (d[i].cons.take j) = d[i].cons := List.take_of_length_le (by omega)
        rw [z6] at e3
        refine rnd (n - 1) _ (by omega) (List.Sublist.refl _) ⟨i + 1, A5, c5, A3, c3, _, l3, by simp, rfl, by rw [nmL_succ d i z4, e1], by rw [cnL_succ d i z4, e3, e2], by omega, hm1, hn3⟩
  ·
    have k1 := bp h1
    refine AW.exit ?_
    repeat with_reducible refine thn_exit ?_
    refine inb_exit ?_
    refine AW.seq ?_
    refine AW.region ?_
    refine st V.assign ?_
    refine sn ?_
    refine AW.ret ?_
    repeat with_reducible first | refine thn_ret ?_ | refine inb_ret ?_
    refine fin (Res.i1 rfl) ?_
    refine ⟨_, (by repeat first | exact List.Sublist.refl _ | apply List.Sublist.cons), tt_f (fun ht => ht (by rw [List.take_of_length_le (by omega)] at e1 e2; rw [← e1, ← e2]; exact ⟨hn1, hn2⟩)), rfl⟩
end Go.Proofs.YtieaiheejhmbfaaGreatDoor.ML
/- The abstract layer: function values, ranges over functions. No conditions. -/
namespace Go.Proofs.YtieaiheejhmbfaaGreatDoor.ML
open Go.RowKit
set_option linter.unusedVariables false
set_option linter.unusedSimpArgs false
section
variable {P : Program} {ro : RO} {ops : Array Oper} {Q : Post} {rest : List Oper} {tm : Tm} {F : Value → Tm} {M : Mem} {H H' : Heap} {K : Tm → Mem → Heap → Prop} {gd : Option (Nat × Bool)}
/-! ### A function whose body holds ranges over functions -/
def bodyPM (P : Program) (fn : Func) (R : Value → Mem → Heap → Prop) : Post
  | .normal, tm, M, H | .ret, tm, M, H => ∃ v, (∀ M', Res P fn tm M' H v) ∧ ∃ H3, List.Sublist H3 H ∧ ∀ M', R v M' H3
  | _, _, _, _ => False
theorem leavesM {F : Fence} {n : Nat} {fn : Func} {tmps : Array Value} {R : Ending → World → Prop} : ∀ (ds : List Deferred) (w : World), ds.Nodup → (∀ d ∈ ds, ∃ D, d = markD D ∧ w.heap[D]? = some (.deferred (some []))) →
    ∃ w', w'.os = w.os ∧ w'.tape = w.tape ∧ w'.output = w.output ∧ w'.heap.size = w.heap.size ∧ (∀ k, markD k ∉ ds → w'.heap[k]? = w.heap[k]?) ∧ (LeavesIn F n P fn tmps R [] .returning w' → LeavesInM F n P fn tmps R ds .returning w)
  | [], w, _, _ => ⟨w, rfl, rfl, rfl, rfl, fun _ _ => rfl, fun h => h⟩
  | d :: ds, w, hn, hd => by
    obtain ⟨D, rfl, hD⟩ := hd d (List.mem_cons_self ..)
    rw [List.nodup_cons] at hn
    obtain ⟨w', h1, h2, h3, h4, h5, h6⟩ := leavesM (F := F) (n := n) (fn := fn) (tmps := tmps) (R := R) ds (w.putObj D (.deferred none)) hn.2 (fun d he => by
      obtain ⟨D', rfl, hD'⟩ := hd d (List.mem_cons_of_mem _ he)
      refine ⟨D', rfl, ?_⟩
      rw [World.putObj_heap_other (fun e => hn.1 (by rw [← e]; exact he))]; exact hD')
    refine ⟨w', h1, h2, h3, by rw [h4, World.putObj_size], fun k hk => ?_, fun hl => ⟨fun e => (by cases e), .inl ⟨D, _, rfl, run_takeDeferred hD, h6 hl⟩⟩⟩
    rw [h5 k (fun e => hk (List.mem_cons_of_mem _ e)), World.putObj_heap_other (fun e => hk (by rw [e]; exact List.mem_cons_self ..))]
open Classical in
theorem AC.ofM {f : Nat} {fn : Func} {c : Code} {as : List Value} {n : Nat} {R : Value → Mem → Heap → Prop} (hf : P.funcs[f]? = some fn) (hb : fn.body = some c) (hn : fn.ntmps - as.length = n)
    (h : AW P ⟨none, false⟩ c (bodyPM P fn R) (as ++ List.replicate n undef) M H) : AC P f as M H R := fun g w hS => by
  refine callsIn_of_wp_marks hf hb trivial ?_ rfl
  have ha : ({ tmps := as.toArray ++ Array.replicate (fn.ntmps - as.toArray.size) undef, defers := [] } : Act) = act [] (as ++ List.replicate n undef) := by
    simp [act, hn]
  rw [ha]
  refine wpIn_mono (h ⟨w, []⟩ w hS.fresh) fun e a w' hl => ?_
  obtain ⟨ds, tm', M', H', hfx, rfl, hM, hS', hq⟩ := hl
  have fin : (∃ v, (∀ M', Res P fn tm' M' H' v) ∧ ∃ H3, List.Sublist H3 H' ∧ ∀ M', R v M' H3) → LeavesInM (fw none) 0 P fn (act ds tm').tmps (fun e w' => ∃ v M' H', e = .returned v ∧ M.le M' ∧ St g M' H' w' ∧ R v M' H') (act ds tm').defers .returning w' := by
    rintro ⟨v, hr, H3, hs, hR⟩
    have hdk := hS'.dsok
    obtain ⟨w2, h1, h2, h3, h4, h5, h6⟩ := leavesM (P := P) (F := fw none) (n := 0) (fn := fn) (tmps := (act ds tm').tmps) (R := fun e w' => ∃ v M' H', e = .returned v ∧ M.le M' ∧ St g M' H' w' ∧ R v M' H') ds w' hdk.1 (fun d hd => by
      obtain ⟨D, e, _, hm⟩ := hdk.2 d hd
      exact ⟨D, e, hS'.mem _ _ hm⟩)
    refine h6 ?_
    have hmark : ∀ k, markD k ∈ ds → M' k = some (.deferred (some [])) ∧ w.heap.size ≤ k := fun k hk => by
      obtain ⟨D, e, h7, h8⟩ := hdk.2 _ hk
      cases e; exact ⟨h8, h7⟩
    obtain ⟨M2, hM2⟩ : ∃ M2 : Mem, M2 = fun k => if markD k ∈ ds then none else M' k := ⟨_, rfl⟩
    have hle : M.le M2 := fun b o hb => by
      rw [hM2]
      show (if markD b ∈ ds then none else M' b) = some o
      rw [if_neg]
      · exact hM b o hb
      · intro hm; have := hS.mlt hb; have := (hmark b hm).2; omega
    have hS2 : St ⟨w, []⟩ M2 H' w2 := by
      refine ⟨h1.trans hS'.os, h2.trans hS'.tape, h3.trans hS'.output, by rw [h4]; exact hS'.size, fun b o hb => ?_, fun e he => Ent.ok_of (hS'.own e he) fun b hb => h5 b fun hm => ?_, hS'.nodup, fun b hb => ?_, .nil⟩
      · rw [hM2] at hb
        by_cases hm : markD b ∈ ds
        · simp [hm] at hb
        · simp only [hm, if_false] at hb; rw [h5 b hm]; exact hS'.mem b o hb
      · have := hS'.apart b (List.mem_flatMap.2 ⟨e, he, hb⟩)
        rw [(hmark b hm).1] at this; cases this
      · rw [hM2]
        by_cases hm : markD b ∈ ds
        · simp [hm]
        · simp only [hm, if_false]; exact hS'.apart b hb
    exact ⟨v, hr M2 _ w2 hS2, v, M2, H3, rfl, hle, (hS.onto hS2 hle).sub hs, hR M2⟩
  cases e with
  | normal => exact fin hq
  | ret => exact fin hq
  | _ => exact hq.elim
/-! ### Function values -/
/-- A call of a function value. -/
def AV (P : Program) (fv : Value) (as : List Value) (M : Mem) (H : Heap) (R : Value → Mem → Heap → Prop) : Prop :=
  ∀ (ro : RO) (x : Operand) (args : Array Operand) (ts : Array TypeId) (d : Option Tmp) (ty : TypeId) (pos : String) (aft : Array Edge) (gd : Option (Nat × Bool)) (tm : Tm) (K : Tm → Mem → Heap → Prop), ev tm x = fv → args.toList.map (ev tm) = as →
    (∀ v M' H', M.le M' → R v M' H' → K (putL tm d v) M' H') → AS P ro ⟨d, .call ⟨.value x, args, ts⟩, ty, pos, aft, gd⟩ tm M H K
theorem AV.func {f : Nat} {fst cap : Array Value} {as : List Value} {R : Value → Mem → Heap → Prop} [Fn P f] (h : AC P f (fst.toList ++ as ++ cap.toList) M H R) : AV P (.func (.func f) fst cap) as M H R :=
  fun ro x args ts d ty pos aft gd tm K hx ha hK => AS.call hx (by rw [ha]) (h.mono fun v M' H' hM hr => hK v M' H' hM hr)
theorem AV.mono {fv : Value} {as : List Value} {R R' : Value → Mem → Heap → Prop} (h : AV P fv as M H R) (hr : ∀ v M' H', M.le M' → R v M' H' → R' v M' H') : AV P fv as M H R' :=
  fun ro x args ts d ty pos aft gd tm K hx ha hK => h ro x args ts d ty pos aft gd tm K hx ha fun v M' H' hM hv => hK v M' H' hM (hr v M' H' hM hv)
theorem AV.perm {fv : Value} {as : List Value} {R : Value → Mem → Heap → Prop} (hp : H'.Perm H) (h : AV P fv as M H' R) : AV P fv as M H R :=
  fun ro x args ts d ty pos aft gd tm K hx ha hK g w hS => h ro x args ts d ty pos aft gd tm K hx ha hK g w (hS.perm hp)
/-- What comes out may be laid in another order. -/
theorem AV.permOut {fv : Value} {as : List Value} {R R' : Value → Mem → Heap → Prop} (h : AV P fv as M H R) (hr : ∀ v M' H', M.le M' → R v M' H' → ∃ H2, H2.Perm H' ∧ R' v M' H2) : AV P fv as M H R' :=
  fun ro x args ts d ty pos aft gd tm K hx ha hK g w hS => by
    have := h ro x args ts d ty pos aft gd tm (fun tm1 M1 H1 => ∃ v H2, tm1 = putL tm d v ∧ H2.Perm H1 ∧ M.le M1 ∧ R' v M1 H2) hx ha (fun v M' H' hM hv => by
      obtain ⟨H2, hp, h2⟩ := hr v M' H' hM hv
      exact ⟨v, H2, rfl, hp, hM, h2⟩) g w hS
    refine opIn_mono (fun a w' hh => ?_) (fun _ _ _ h => h) this
    obtain ⟨tm', M', H', rfl, hM, hS', v, H2, rfl, hp, hM2, hR⟩ := hh
    exact ⟨_, M', H2, rfl, hM, hS'.perm hp, hK v M' H2 hM2 hR⟩
/-- A round of a loop, told by its record. -/
def rpost (l : Nat) (r : Loop) (R : Value → Mem → Heap → Prop) : Post := fun e tm M H => ∃ H2, H = .blk l (.loop { r with state := .busy }) :: H2 ∧
  (match e with
   | .normal => R (.bool true) M (.blk l (.loop { r with state := .ready, pending := none }) :: H2)
   | .ret => R (.bool false) M (.blk l (.loop { r with state := .done, pending := some .ret }) :: H2)
   | .exit id => R (.bool false) M (.blk l (.loop { r with state := .done, pending := some (.exit id) }) :: H2)
   | _ => False)
def apost (l : Nat) (r : Loop) (body : Code) (P : Program) (R : Value → Mem → Heap → Prop) : Post
  | .normal => fun tm M H => ∃ H2, (Ent.blk l (.loop r) :: H2).Perm H ∧ AW P ⟨some l, true⟩ body (rpost l r R) tm M (.blk l (.loop { r with state := .busy }) :: H2)
  | _ => fun _ _ _ => False
theorem St.putB {g : GW} {w : World} {b : Nat} {o : Obj} (o' : Obj) (hS : St g M (.blk b o :: H) w) : St g M (.blk b o' :: H) (w.putObj b o') := by
  have hb : w.heap[b]? = some o := hS.own _ (List.mem_cons_self ..)
  exact hS.put rfl rfl rfl (by simp) (World.putObj_heap_same (Array.getElem?_eq_some_iff.1 hb).1) (fun k _ hne => World.putObj_heap_other hne)
theorem setAll_fold : ∀ (ps : List Nat) (as : List Value) (tm : Tm), (ps.zip as).foldl (fun (tmps : Array Value) (x : Nat × Value) => tmps.setIfInBounds x.1 x.2) tm.toArray = (setAll tm ps as).toArray
  | [], as, tm => by cases as <;> rfl
  | p :: ps, [], tm => rfl
  | p :: ps, a :: as, tm => by rw [List.zip_cons_cons, List.foldl_cons, setAll, ← setAll_fold]; simp
theorem AV.yield {l : Nat} {r : Loop} {tm0 : Tm} {as : List Value} {R : Value → Mem → Heap → Prop} (ht : r.tmps = tm0.toArray) (hst : r.state = .ready) (hn : as.length = r.params.size)
    (h : AW P ⟨some l, true⟩ r.assign (apost l r r.body P R) (setAll tm0 r.params.toList as) M (.blk l (.loop r) :: H)) : AV P (.func (.yield l) #[] #[]) as M (.blk l (.loop r) :: H) R :=
  fun ro x args ts d ty pos aft gd tm K hx ha hK g w hS => by
    refine ⟨fun _ _ => trivial, ?_⟩
    have hl : w.heap[l]? = some (.loop r) := hS.own _ (List.mem_cons_self ..)
    have hm : args.map (ev tm) = as.toArray := Array.ext' (by rw [Array.toList_map, ha])
    have hy := run_yield (P := P) (args := as.toArray) hl (by simpa using hn)
    have hrun : (execOp (ev tm) ⟨d, .call ⟨.value x, args, ts⟩, ty, pos, aft, gd⟩).run P w = .ok (.round l r.fn (setAll tm0 r.params.toList as).toArray r.assign r.body) w := by
      have hz : (r.params.zip as.toArray).foldl (fun tmps (x : Nat × Value) => tmps.setIfInBounds x.1 x.2) r.tmps = (setAll tm0 r.params.toList as).toArray := by
        rw [ht, ← setAll_fold, ← Array.foldl_toList, Array.toList_zip]
      simp only [execOp, resolve, hx, Deferred.ofValue, Sem.run_bind, Sem.run_pure, Result.andThen_ok, invoke, hm]
      rw [← hz]
      simpa using hy
    rw [show (fw ro.ro).round = ro.ro from rfl, semAt_exec rfl, ev_act, hrun, Oper.uponIn_round]
    refine ⟨fun hd => by simp [fw, Fence.wide] at hd, roundIn_of_wpIn trivial ?_⟩
    have hA := h ⟨w, []⟩ w hS.fresh
    refine wpIn_n (ro := some l) (n := 0) (wpIn_mono hA fun e a w1 hl1 => ?_)
    obtain ⟨ds1, tm1, M1, H1, hf1, rfl, hM1, hS1, hq1⟩ := hl1
    cases e with
    | normal =>
      obtain ⟨H2, hpm, hB⟩ := hq1
      replace hS1 := hS1.perm hpm
      refine ⟨_, run_beginRound (hS1.own _ (List.mem_cons_self ..)) hst, ?_⟩
      refine wpIn_n (ro := some l) (n := 0) (wpIn_mono (hB ⟨w, ds1⟩ _ (hS1.putB _)) fun e a w2 hl2 => ?_)
      obtain ⟨ds2, tm2, M2, H3, hf2, rfl, hM2, hS2, H4, rfl, hq2⟩ := hl2
      have hr2 : w2.heap[l]? = some (.loop { r with state := .busy }) := hS2.own _ (List.mem_cons_self ..)
      have hle := hM1.trans hM2
      cases e with
      | normal =>
        refine ⟨_, _, run_endRound none hr2, ?_⟩
        show hold g M K ((act g.ds tm).put d (.bool true)) _
        rw [put_act]
        exact ⟨_, M2, _, rfl, hle, hS.onto (hS2.putB _) hle, hK _ _ _ hle hq2⟩
      | ret =>
        refine ⟨_, _, run_endRound (some .ret) hr2, ?_⟩
        show hold g M K ((act g.ds tm).put d (.bool false)) _
        rw [put_act]
        exact ⟨_, M2, _, rfl, hle, hS.onto (hS2.putB _) hle, hK _ _ _ hle hq2⟩
      | exit id =>
        refine ⟨_, _, run_endRound (some (.exit id)) hr2, ?_⟩
        show hold g M K ((act g.ds tm).put d (.bool false)) _
        rw [put_act]
        exact ⟨_, M2, _, rfl, hle, hS.onto (hS2.putB _) hle, hK _ _ _ hle hq2⟩
      | _ => exact hq2.elim
    | _ => exact hq1.elim
/-- What is asked behind the function that was ranged over. -/
def rangeQ (P : Program) (ro : RO) (Q : Post) (tm : Tm) (l : Nat) (r : Loop) : Value → Mem → Heap → Prop := fun _ M' H' => ∃ st pend H2, H' = .blk l (.loop { r with state := st, pending := pend }) :: H2 ∧ st ≠ .busy ∧
  (match pend with
   | none => Q .normal tm M' H2
   | some c => AW P ro c Q tm M' H2)
/-- A range over a function, not within a round. -/
theorem AW.rangeF {x : Operand} {f : Nat} {fst cap : Array Value} {ps : Array Tmp} {assign body : Code} [Fn P f] (hx : ev tm x = .func (.func f) fst cap)
    (h : ∀ (l : Nat) (r : Loop) (M1 : Mem), Le M M1 → r.tmps = tm.toArray → r.state = .ready → r.pending = none → r.params = ps → r.assign = assign → r.body = body → AC P f (fst.toList ++ [Value.func (.yield l) #[] #[]] ++ cap.toList) M1 (.blk l (.loop r) :: H) (rangeQ P ⟨none, false⟩ Q tm l r)) :
    AW P ⟨none, false⟩ (.rangeFunc x ps assign body) Q tm M H := fun g w hS => by
  refine wpIn_rangeFunc fun fn hfn => ?_
  obtain ⟨r, hr⟩ : ∃ r : Loop, r = { state := .ready, pending := none, fn := fn, tmps := tm.toArray, params := ps, assign := assign, body := body, defers := w.heap.size } := ⟨_, rfl⟩
  have hS1 := (hS.alloc (.deferred (some []))).keep
  have hS2 := hS1.2.alloc (.loop r)
  rw [World.size_alloc] at hS2
  have hD : DsOk ⟨g.w, markD w.heap.size :: g.ds⟩ (M.add w.heap.size (.deferred (some []))) := by
    refine ⟨List.nodup_cons.2 ⟨fun hm => ?_, hS.dsok.1⟩, fun d hd => ?_⟩
    · obtain ⟨D, e, _, hm⟩ := hS.dsok.2 _ hm
      cases e
      have := hS.mlt hm
      omega
    · rcases List.mem_cons.1 hd with rfl | hd
      · exact ⟨_, rfl, hS.size, Mem.add_self ..⟩
      · exact (hS.dsok.mono hS1.1).2 d hd
  have hS3 : St ⟨g.w, markD w.heap.size :: g.ds⟩ (M.add w.heap.size (.deferred (some []))) (.blk (w.heap.size + 1) (.loop r) :: H) ((w.alloc (.deferred (some []))).alloc (.loop r)) :=
    ⟨hS2.os, hS2.tape, hS2.output, hS2.size, hS2.mem, hS2.own, hS2.nodup, hS2.apart, hD⟩
  have hx' : (act g.ds tm).eval x = .func (.func f) fst cap := by rw [ev_act]; exact hx
  have hc := h (w.heap.size + 1) r _ ⟨hS1.1⟩ (by rw [hr]) (by rw [hr]) (by rw [hr]) (by rw [hr]) (by rw [hr]) (by rw [hr]) _ _ hS3
  refine ⟨w.heap.size + 1, [markD w.heap.size], (w.alloc (.deferred (some []))).alloc (.loop r), { target := .fn (.func f) cap, args := fst ++ #[Value.func (.yield (w.heap.size + 1)) #[] #[]] }, (w.alloc (.deferred (some []))).alloc (.loop r), f, (fst.toList ++ [Value.func (.yield (w.heap.size + 1)) #[] #[]] ++ cap.toList).toArray, (w.alloc (.deferred (some []))).alloc (.loop r), ?_, ?_, fun _ _ => trivial, ?_, fun hd => by simp [fw, Fence.wide] at hd, ?_⟩
  · show (Instr.enterLoop fn (act g.ds tm).tmps ps assign body none).run P w = _
    rw [run_enterLoop_outer, hr]; rfl
  · simp only [resolve, hx']
    simp [go_sem, Deferred.ofValue, Act.eval]
  · have hm : fst ++ #[Value.func (.yield (w.heap.size + 1)) #[] #[]] ++ cap = (fst.toList ++ [Value.func (.yield (w.heap.size + 1)) #[] #[]] ++ cap.toList).toArray := by simp
    simp only [invoke, hm, run_callFunc]
  · refine callsIn_n (ro := none) (n := 0) (hc.mono fun e w3 hh => ?_)
    obtain ⟨v, M', H', rfl, hM, hS', st, pend, H2, rfl, hst, hq⟩ := hh
    have hl3 : w3.heap[w.heap.size + 1]? = some (.loop { r with state := st, pending := pend }) := hS'.own _ (List.mem_cons_self ..)
    refine ⟨pend, _, run_endLoop hl3 hst, ?_⟩
    have hS4 := (hS'.putB (.loop { r with state := .exhausted, pending := pend })).drop
    have hle := hS1.1.trans hM
    cases pend with
    | none => exact ⟨_, tm, M', H2, fun e => (by cases e), rfl, hle, hS4, hq⟩
    | some c => exact wpIn_mono (hq _ _ hS4) fun e a w5 hl => lift_of (fun e => (by cases e)) hle hl
theorem apost_in {l : Nat} {r : Loop} {body : Code} {R : Value → Mem → Heap → Prop} (h : AW P ⟨some l, true⟩ body (rpost l r R) tm M (.blk l (.loop { r with state := .busy }) :: H)) : apost l r body P R .normal tm M (.blk l (.loop r) :: H) := ⟨_, .refl _, h⟩
theorem apost_1 {l : Nat} {r : Loop} {body : Code} {R : Value → Mem → Heap → Prop} {e : Ent} (h : AW P ⟨some l, true⟩ body (rpost l r R) tm M (.blk l (.loop { r with state := .busy }) :: e :: H)) : apost l r body P R .normal tm M (e :: .blk l (.loop r) :: H) := ⟨_, List.Perm.swap .., h⟩
theorem rpost_n {l : Nat} {r : Loop} {R : Value → Mem → Heap → Prop} (h : R (.bool true) M (.blk l (.loop { r with state := .ready, pending := none }) :: H)) : rpost l r R .normal tm M (.blk l (.loop { r with state := .busy }) :: H) := ⟨_, rfl, h⟩
theorem rpost_r {l : Nat} {r : Loop} {R : Value → Mem → Heap → Prop} (h : R (.bool false) M (.blk l (.loop { r with state := .done, pending := some .ret }) :: H)) : rpost l r R .ret tm M (.blk l (.loop { r with state := .busy }) :: H) := ⟨_, rfl, h⟩
theorem rpost_x {l id : Nat} {r : Loop} {R : Value → Mem → Heap → Prop} (h : R (.bool false) M (.blk l (.loop { r with state := .done, pending := some (.exit id) }) :: H)) : rpost l r R (.exit id) tm M (.blk l (.loop { r with state := .busy }) :: H) := ⟨_, rfl, h⟩
theorem rangeQ_n {v : Value} {l : Nat} {r : Loop} (h : Q .normal tm M H) : rangeQ P ro Q tm l r v M (.blk l (.loop { r with state := .ready, pending := none }) :: H) := ⟨_, _, _, rfl, (by intro e; cases e), h⟩
theorem rangeQ_c {v : Value} {l : Nat} {r : Loop} {c : Code} (h : AW P ro c Q tm M H) : rangeQ P ro Q tm l r v M (.blk l (.loop { r with state := .done, pending := some c }) :: H) := ⟨_, _, _, rfl, (by intro e; cases e), h⟩
theorem sy {c : Code} {W : List Nat} {us : List Value} {tm1 : Tm} [h1 : Sa tm W us tm1] (h : AW P ro c Q tm1 M H) : AW P ro c Q (setAll tm W us) M H := by rw [h1.out]; exact h
theorem finM {fn : Func} {R : Value → Mem → Heap → Prop} {v : Value} (hr : ∀ M', Res P fn tm M' H v) (h : ∃ H3, List.Sublist H3 H ∧ ∀ M', R v M' H3) : bodyPM P fn R .ret tm M H := ⟨v, hr, h⟩
theorem fin0M {fn : Func} {R : Value → Mem → Heap → Prop} {v : Value} (hr : ∀ M', Res P fn tm M' H v) (h : ∃ H3, List.Sublist H3 H ∧ ∀ M', R v M' H3) : bodyPM P fn R .normal tm M H := ⟨v, hr, h⟩
/-! ### A frame -/
open Classical in
theorem St.unkeep {g : GW} {w : World} {M1 : Mem} {b : Nat} {o : Obj} (hg : DsOk g M) (hb : M b = none) (hM : (M.add b o).le M1) (hS : St g M1 H w) : ∃ M2 : Mem, M.le M2 ∧ St g M2 (.blk b o :: H) w := by
  have hb1 : M1 b = some o := hM _ _ (Mem.add_self ..)
  refine ⟨fun k => if k = b then none else M1 k, fun k o' hk => ?_, hS.os, hS.tape, hS.output, hS.size, fun k o' hk => ?_, fun e he => ?_, ?_, fun k hk => ?_, ⟨hg.1, fun d hd => ?_⟩⟩
  · have hne : k ≠ b := by
      intro e
      subst e
      rw [hb] at hk
      cases hk
    show (if k = b then none else M1 k) = some o'
    rw [if_neg hne]
    exact hM _ _ (by unfold Mem.add; rw [if_neg hne]; exact hk)
  · by_cases e : k = b
    · simp [e] at hk
    · simp only [e, if_false] at hk; exact hS.mem _ _ hk
  · rcases List.mem_cons.1 he with rfl | he
    · exact hS.mem _ _ hb1
    · exact hS.own e he
  · rw [fps_cons]
    simp only [Ent.fp, List.singleton_append, List.nodup_cons]
    exact ⟨fun hm => (by have := hS.apart b hm; rw [hb1] at this; cases this), hS.nodup⟩
  · show (if k = b then none else M1 k) = none
    by_cases e : k = b
    · rw [if_pos e]
    · rw [if_neg e]
      rw [fps_cons] at hk
      rcases List.mem_append.1 hk with hk | hk
      · simp [Ent.fp] at hk; exact absurd hk e
      · exact hS.apart k hk
  · obtain ⟨D, e, h1, h2⟩ := hg.2 d hd
    have hne : D ≠ b := by
      intro e
      subst e
      rw [hb] at h2
      cases h2
    refine ⟨D, e, h1, ?_⟩
    show (if D = b then none else M1 D) = _
    rw [if_neg hne]
    exact hM _ _ (by unfold Mem.add; rw [if_neg hne]; exact h2)
/-- What a callback does not know of stays as it is. -/
theorem AV.frame {fv : Value} {av : List Value} {b : Nat} {o : Obj} {R : Value → Heap → Prop} (h : ∀ M' : Mem, LeT M M' → AV P fv av M' H (fun r _ H' => R r H')) : AV P fv av M (.blk b o :: H) (fun r _ H' => ∃ H2, H' = .blk b o :: H2 ∧ R r H2) :=
  fun ro x args ts d ty pos aft gd tm K hx ha hK g w hS => by
    have hb : M b = none := hS.apart b (by simp [fps, Ent.fp])
    have hk := hS.keep
    have := h _ ⟨hk.1⟩ ro x args ts d ty pos aft gd tm (fun tm1 M1 H1 => ∃ v, tm1 = putL tm d v ∧ R v H1) hx ha (fun v M1 H1 _ hR => ⟨v, rfl, hR⟩) g w hk.2
    refine opIn_mono (fun a w' hh => ?_) (fun _ _ _ h => h) this
    obtain ⟨tm', M1, H1, rfl, hM, hS1, v, rfl, hR⟩ := hh
    obtain ⟨M2, hle, hS2⟩ := St.unkeep hS.dsok hb hM hS1
    exact ⟨_, M2, _, rfl, hle, hS2, hK v M2 _ hle ⟨_, rfl, hR⟩⟩
end
end Go.Proofs.YtieaiheejhmbfaaGreatDoor.ML
