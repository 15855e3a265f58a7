/- Walks of functions of the program, in the abstract layer. No conditions. -/
import Derived.Test.YtieaiheejhmbfaaGreatDoorPk9
namespace Go.Proofs.YtieaiheejhmbfaaGreatDoor.ML
open Go.RowKit
set_option linter.unusedVariables false
set_option linter.unusedSimpArgs false
set_option maxHeartbeats 1600000 in
set_option synthInstance.maxHeartbeats 400000 in
set_option synthInstance.maxSize 100000 in
set_option maxRecDepth 100000 in
theorem r_istype_c (M : Mem) (H : Heap) (A : Option Addr) (c : Nat) (n : Nat) (hn : n ≤ 9223372036854775807) (t : Int) :
    AC Tryz.prog 89 [.slice A n c, .int .i64 t] M H fun v M' H' => v = .bool (decide (0 ≤ t ∧ t ≤ n)) ∧ H' = H := by
  refine AC.of (n := 11) Tryz.func89 rfl rfl ?_
  dsimp only [List.replicate, List.cons_append, List.nil_append]
  refine AW.seq ?_
  refine AW.region ?_
  refine st V.assign ?_
  refine sn ?_
  refine AW.seq ?_
  refine AW.region ?_
  refine st V.move ?_
  refine st V.geq ?_
  refine st V.move ?_
  refine onoff false rfl rfl (fun h1 => ?_) (fun h1 => ?_)
  ·
    have k1 := bp h1
    refine st V.move ?_
    refine on rfl h1 ?_
    refine st V.move ?_
    refine on rfl h1 ?_
    refine st V.len ?_
    refine on rfl h1 ?_
    refine st V.leq ?_
    refine st (V.pT h1) ?_
    refine st V.assign ?_
    refine sn ?_
    refine AW.ret ?_
    repeat with_reducible first | refine thn_ret ?_ | refine inb_ret ?_
    refine fin (Res.i1 rfl) ?_
    exact ⟨_, (by repeat first | exact List.Sublist.refl _ | apply List.Sublist.cons), by simp; omega, rfl⟩
  ·
    have k1 := bp h1
    refine off rfl h1 ?_
    refine off rfl h1 ?_
    refine off rfl h1 ?_
    refine st (V.pF h1) ?_
    refine st V.assign ?_
    refine sn ?_
    refine AW.ret ?_
    repeat with_reducible first | refine thn_ret ?_ | refine inb_ret ?_
    refine fin (Res.i1 rfl) ?_
    exact ⟨_, (by repeat first | exact List.Sublist.refl _ | apply List.Sublist.cons), by simp; omega, rfl⟩
set_option maxHeartbeats 1600000 in
set_option synthInstance.maxHeartbeats 400000 in
set_option synthInstance.maxSize 100000 in
set_option maxRecDepth 100000 in
theorem r18_istype_c (M : Mem) (H : Heap) (A : Option Addr) (c : Nat) (n : Nat) (hn : n ≤ 9223372036854775807) (t : Int) :
    AC Tryz.prog 61 [.slice A n c, .int .i64 t] M H fun v M' H' => v = .bool (decide (0 ≤ t ∧ t ≤ n)) ∧ H' = H := by
  refine AC.of (n := 11) Tryz.func61 rfl rfl ?_
  dsimp only [List.replicate, List.cons_append, List.nil_append]
  refine AW.seq ?_
  refine AW.region ?_
  refine st V.assign ?_
  refine sn ?_
  refine AW.seq ?_
  refine AW.region ?_
  refine st V.move ?_
  refine st V.geq ?_
  refine st V.move ?_
  refine onoff false rfl rfl (fun h1 => ?_) (fun h1 => ?_)
  ·
    have k1 := bp h1
    refine st V.move ?_
    refine on rfl h1 ?_
    refine st V.move ?_
    refine on rfl h1 ?_
    refine st V.len ?_
    refine on rfl h1 ?_
    refine st V.leq ?_
    refine st (V.pT h1) ?_
    refine st V.assign ?_
    refine sn ?_
    refine AW.ret ?_
    repeat with_reducible first | refine thn_ret ?_ | refine inb_ret ?_
    refine fin (Res.i1 rfl) ?_
    exact ⟨_, (by repeat first | exact List.Sublist.refl _ | apply List.Sublist.cons), by simp; omega, rfl⟩
  ·
    have k1 := bp h1
    refine off rfl h1 ?_
    refine off rfl h1 ?_
    refine off rfl h1 ?_
    refine st (V.pF h1) ?_
    refine st V.assign ?_
    refine sn ?_
    refine AW.ret ?_
    repeat with_reducible first | refine thn_ret ?_ | refine inb_ret ?_
    refine fin (Res.i1 rfl) ?_
    exact ⟨_, (by repeat first | exact List.Sublist.refl _ | apply List.Sublist.cons), by simp; omega, rfl⟩
set_option maxHeartbeats 1600000 in
set_option synthInstance.maxHeartbeats 400000 in
set_option synthInstance.maxSize 100000 in
set_option maxRecDepth 100000 in
theorem r_many_c (M : Mem) (H : Heap) (A : Option Addr) (c : Nat) (d : List DT) (hd : RdS 2 (RdD M) A c d) :
    AC Tryz.prog 62 [.slice A d.length c] M H fun v _ H' => v = .bool (manyF d) ∧ H' = H := by
  refine AC.of (n := 41) Tryz.func62 rfl rfl ?_
  dsimp only [List.replicate, List.cons_append, List.nil_append]
  refine AW.seq ?_
  refine AW.region ?_
  refine st V.assign ?_
  refine sn ?_
  refine AW.seq ?_
  refine AW.seq ?_
  refine AW.region ?_
  refine st V.move ?_
  refine st V.len ?_
  refine st V.gtr ?_
  refine sn ?_
  refine cond (fun h1 => ?_) (fun h1 => ?_)
  ·
    have k1 := bp h1
    refine AW.seq ?_
    refine AW.region ?_
    refine st V.assign ?_
    refine sn ?_
    refine AW.ret ?_
    repeat with_reducible first | refine thn_ret ?_ | refine inb_ret ?_
    refine fin (Res.i1 rfl) ?_
    exact ⟨_, (by repeat first | exact List.Sublist.refl _ | apply List.Sublist.cons), by rw [manyF, h1]; rfl, rfl⟩
  ·
    have k1 := bp h1
    refine AW.skip ?_
    refine AW.seq ?_
    refine AW.seq ?_
    have hbd := hd.bd
    refine AW.region ?_
    refine st V.assign ?_
    refine sn ?_
    refine AW.block ?_
    refine AW.loopL [3] (2 :: 4 :: 8 :: 9 :: 10 :: 11 :: 12 :: 13 :: 14 :: 15 :: 16 :: 17 :: 18 :: 19 :: 20 :: 21 :: 22 :: 23 :: 24 :: 25 :: 26 :: 27 :: 28 :: 29 :: 30 :: 31 :: 32 :: 33 :: 34 :: 35 :: 36 :: 37 :: 38 :: 39 :: 40 :: 41 :: []) (fun n vs M' H' => ∃ i : Nat, vs = [.int .i64 (i : Int)] ∧ H' = H ∧ i + n = d.length ∧ (∀ k (h : k < d.length), k < i → many0 d[k] = false)) (d.length) (⟨0, rfl, rfl, by omega, fun k _ h => by omega⟩) ?_
    intro n Ml Hl iL u3 hI u2 u4 u8 u9 u10 u11 u12 u13 u14 u15 u16 u17 u18 u19 u20 u21 u22 u23 u24 u25 u26 u27 u28 u29 u30 u31 u32 u33 u34 u35 u36 u37 u38 u39 u40 u41
    obtain ⟨i, hv, hH, hi, hall⟩ := hI
    obtain rfl := hH.symm
    cases hv
    refine sa ?_
    refine AW.seq ?_
    refine AW.seq ?_
    refine AW.region ?_
    refine st V.move ?_
    refine st V.move ?_
    refine st V.len ?_
    refine st V.lss ?_
    refine sn ?_
    refine cond (fun h2 => ?_) (fun h2 => ?_)
    ·
      have k2 := bp h2
      refine AW.skip ?_
      refine AW.seq ?_
      refine AW.block ?_
      refine AW.seq ?_
      refine AW.seq ?_
      have z4 : i < d.length := by omega
      obtain ⟨b8, o8, hA8, i0, ib0, A8, c8, i1, i2⟩ := (hd.upD (M' := Ml)).at i z4
      have hbd2 := i2.bd
      refine AW.region ?_
      refine st V.move ?_
      refine st V.move ?_
      refine st (V.ib i rfl z4 hA8) ?_
      refine st V.fa ?_
      first | refine st V.ld ?_ | refine sq V.lo ?_
      refine st V.len ?_
      refine st V.gtr ?_
      refine sn ?_
      refine cond (fun h3 => ?_) (fun h3 => ?_)
      ·
        have k3 := bp h3
        refine AW.seq ?_
        refine AW.region ?_
        refine st V.assign ?_
        refine sn ?_
        refine AW.ret ?_
        repeat with_reducible first | refine thn_ret ?_ | refine inb_ret ?_
        refine fin (Res.i1 rfl) ?_
        exact ⟨_, (by repeat first | exact List.Sublist.refl _ | apply List.Sublist.cons), by rw [manyF, any_at i z4 (by rw [many0, h3]; rfl), Bool.or_true], rfl⟩
      ·
        have k3 := bp h3
        refine AW.skip ?_
        refine AW.seq ?_
        refine AW.region ?_
        refine st V.assign ?_
        refine sn ?_
        refine AW.block ?_
        refine AW.loopL [4] (2 :: 21 :: 22 :: 23 :: 24 :: 25 :: 26 :: 27 :: 28 :: 29 :: 30 :: 31 :: 32 :: 33 :: 34 :: 35 :: 36 :: 37 :: 38 :: 39 :: 40 :: 41 :: []) (fun n vs M' H' => ∃ j : Nat, vs = [.int .i64 (j : Int)] ∧ H' = H ∧ j + n = d[i].cons.length ∧ (∀ k (h : k < d[i].cons.length), k < j → decide (6 < (d[i].cons[k].fields.length : Int)) = false)) (d[i].cons.length) (⟨0, rfl, rfl, by omega, fun k _ h => by omega⟩) ?_
        intro n1 Ml1 Hl1 iL1 u4 hI1 u2 u21 u22 u23 u24 u25 u26 u27 u28 u29 u30 u31 u32 u33 u34 u35 u36 u37 u38 u39 u40 u41
        obtain ⟨j, hv, hH, hj, hall1⟩ := hI1
        obtain rfl := hH.symm
        cases hv
        refine sa ?_
        refine AW.seq ?_
        refine AW.seq ?_
        refine AW.region ?_
        refine st V.move ?_
        refine st V.move ?_
        refine st V.move ?_
        refine st (V.ib i rfl z4 hA8) ?_
        refine st V.fa ?_
        first | refine st V.ld ?_ | refine sq V.lo ?_
        refine st V.len ?_
        refine st V.lss ?_
        refine sn ?_
        refine cond (fun h4 => ?_) (fun h4 => ?_)
        ·
          have k4 := bp h4
          refine AW.skip ?_
          refine AW.seq ?_
          refine AW.block ?_
          refine AW.seq ?_
          have z7 : j < d[i].cons.length := by omega
          obtain ⟨b7, o7, hA7, j0, jb0, A7, c7, q1, q2⟩ := (i2.upC (M' := Ml1)).at j z7
          have hbd3 := q2.bd
          refine AW.region ?_
          refine st V.move ?_
          refine st V.move ?_
          refine st (V.ib i rfl z4 hA8) ?_
          refine st V.fa ?_
          first | refine st V.ld ?_ | refine sq V.lo ?_
          refine st V.move ?_
          refine st (V.ib j rfl z7 hA7) ?_
          refine st V.fa ?_
          first | refine st V.ld ?_ | refine sq V.lo ?_
          refine st V.len ?_
          refine st V.gtr ?_
          refine sn ?_
          refine cond (fun h5 => ?_) (fun h5 => ?_)
          ·
            have k5 := bp h5
            refine AW.seq ?_
            refine AW.region ?_
            refine st V.assign ?_
            refine sn ?_
            refine AW.ret ?_
            repeat with_reducible first | refine thn_ret ?_ | refine inb_ret ?_
            refine fin (Res.i1 rfl) ?_
            exact ⟨_, (by repeat first | exact List.Sublist.refl _ | apply List.Sublist.cons), by rw [manyF, any_at i z4 (by rw [many0, any_at j z7 h5, Bool.or_true]), Bool.or_true], rfl⟩
          ·
            have k5 := bp h5
            refine AW.skip ?_
            refine AW.region ?_
            refine st V.move ?_
            refine st (V.add64 (by omega)) ?_
            refine st V.assign ?_
            refine sn ?_
            repeat with_reducible refine inb_normal ?_
            refine thn_normal ?_
            refine rnd (n1 - 1) _ (by omega) (List.Sublist.refl _) ⟨j + 1, by simp, rfl, by omega, fun k hk hkj => ?_⟩
            rcases Nat.lt_or_ge k j with h | h
            · exact hall1 k hk h
            · obtain rfl : k = j := by omega
              exact h5
        ·
          have k4 := bp h4
          refine AW.exit ?_
          repeat with_reducible refine thn_exit ?_
          refine inb_exit ?_
          refine AW.region ?_
          refine st V.move ?_
          refine st (V.add64 (by omega)) ?_
          refine st V.assign ?_
          refine sn ?_
          repeat with_reducible refine inb_normal ?_
          refine thn_normal ?_
          refine rnd (n - 1) _ (by omega) (List.Sublist.refl _) ⟨i + 1, by simp, rfl, by omega, fun k hk hki => ?_⟩
          rcases Nat.lt_or_ge k i with h | h
          · exact hall k hk h
          · obtain rfl : k = i := by omega
            rw [many0, h3, any_none fun j' hj' => hall1 j' hj' (by omega)]; rfl
    ·
      have k2 := bp h2
      refine AW.exit ?_
      repeat with_reducible refine thn_exit ?_
      refine inb_exit ?_
      refine AW.seq ?_
      refine AW.region ?_
      refine st V.assign ?_
      refine sn ?_
      refine AW.ret ?_
      repeat with_reducible first | refine thn_ret ?_ | refine inb_ret ?_
      refine fin (Res.i1 rfl) ?_
      exact ⟨_, (by repeat first | exact List.Sublist.refl _ | apply List.Sublist.cons), by rw [manyF, h1, any_none (fun j h => hall j h (by omega))]; rfl, rfl⟩
set_option maxHeartbeats 1600000 in
set_option synthInstance.maxHeartbeats 400000 in
set_option synthInstance.maxSize 100000 in
set_option maxRecDepth 100000 in
theorem r_typed_c (M : Mem) (H : Heap) (A : Option Addr) (c : Nat) (d : List DT) (hd : RdS 2 (RdD M) A c d) :
    AC Tryz.prog 65 [.slice A d.length c] M H fun v _ H' => v = .bool (tt (TypedP d)) ∧ H' = H := by
  refine AC.of (n := 44) Tryz.func65 rfl rfl ?_
  dsimp only [List.replicate, List.cons_append, List.nil_append]
  refine AW.seq ?_
  refine AW.region ?_
  refine st V.assign ?_
  refine sn ?_
  refine AW.seq ?_
  refine AW.seq ?_
  refine AW.region ?_
  refine st V.assign ?_
  refine sn ?_
  refine AW.block ?_
  refine AW.loopL [3] (2 :: 4 :: 5 :: 6 :: 7 :: 8 :: 9 :: 10 :: 11 :: 12 :: 13 :: 14 :: 15 :: 16 :: 17 :: 18 :: 19 :: 20 :: 21 :: 22 :: 23 :: 24 :: 25 :: 26 :: 27 :: 28 :: 29 :: 30 :: 31 :: 32 :: 33 :: 34 :: 35 :: 36 :: 37 :: 38 :: 39 :: 40 :: 41 :: 42 :: 43 :: 44 :: []) (fun n vs M' H' => ∃ i : Nat, vs = [.int .i64 (i : Int)] ∧ H' = H ∧ i + n = d.length ∧ (∀ k (h : k < d.length), k < i → ∀ j (h' : j < d[k].cons.length), ∀ f ∈ d[k].cons[j].fields, 0 ≤ f ∧ f ≤ d.length)) (d.length) (⟨0, rfl, rfl, by omega, fun k _ h => by omega⟩) ?_
  intro n Ml Hl iL u3 hI u2 u4 u5 u6 u7 u8 u9 u10 u11 u12 u13 u14 u15 u16 u17 u18 u19 u20 u21 u22 u23 u24 u25 u26 u27 u28 u29 u30 u31 u32 u33 u34 u35 u36 u37 u38 u39 u40 u41 u42 u43 u44
  obtain ⟨i, hv, hH, hi, hall⟩ := hI
  obtain rfl := hH.symm
  cases hv
  refine sa ?_
  refine AW.seq ?_
  refine AW.seq ?_
  have hbd := hd.bd
  refine AW.region ?_
  refine st V.move ?_
  refine st V.move ?_
  refine st V.len ?_
  refine st V.lss ?_
  refine sn ?_
  refine cond (fun h1 => ?_) (fun h1 => ?_)
  ·
    have k1 := bp h1
    refine AW.skip ?_
    refine AW.seq ?_
    refine AW.block ?_
    refine AW.seq ?_
    have z4 : i < d.length := by omega
    obtain ⟨b8, o8, hA8, i0, ib0, A8, c8, i1, i2⟩ := (hd.upD (M' := Ml)).at i z4
    have hbd2 := i2.bd
    refine AW.region ?_
    refine st V.assign ?_
    refine sn ?_
    refine AW.block ?_
    refine AW.loopL [4] (2 :: 5 :: 6 :: 13 :: 14 :: 15 :: 16 :: 17 :: 18 :: 19 :: 20 :: 21 :: 22 :: 23 :: 24 :: 25 :: 26 :: 27 :: 28 :: 29 :: 30 :: 31 :: 32 :: 33 :: 34 :: 35 :: 36 :: 37 :: 38 :: 39 :: 40 :: 41 :: 42 :: 43 :: 44 :: []) (fun n vs M' H' => ∃ j : Nat, vs = [.int .i64 (j : Int)] ∧ H' = H ∧ j + n = d[i].cons.length ∧ (∀ k (h : k < d[i].cons.length), k < j → ∀ f ∈ d[i].cons[k].fields, 0 ≤ f ∧ f ≤ d.length)) (d[i].cons.length) (⟨0, rfl, rfl, by omega, fun k _ h => by omega⟩) ?_
    intro n1 Ml1 Hl1 iL1 u4 hI1 u2 u5 u6 u13 u14 u15 u16 u17 u18 u19 u20 u21 u22 u23 u24 u25 u26 u27 u28 u29 u30 u31 u32 u33 u34 u35 u36 u37 u38 u39 u40 u41 u42 u43 u44
    obtain ⟨j, hv, hH, hj, hall1⟩ := hI1
    obtain rfl := hH.symm
    cases hv
    refine sa ?_
    refine AW.seq ?_
    refine AW.seq ?_
    refine AW.region ?_
    refine st V.move ?_
    refine st V.move ?_
    refine st V.move ?_
    refine st (V.ib i rfl z4 hA8) ?_
    refine st V.fa ?_
    first | refine st V.ld ?_ | refine sq V.lo ?_
    refine st V.len ?_
    refine st V.lss ?_
    refine sn ?_
    refine cond (fun h2 => ?_) (fun h2 => ?_)
    ·
      have k2 := bp h2
      refine AW.skip ?_
      refine AW.seq ?_
      refine AW.block ?_
      refine AW.seq ?_
      have z7 : j < d[i].cons.length := by omega
      obtain ⟨b7, o7, hA7, j0, jb0, A7, c7, q1, q2⟩ := (i2.upC (M' := Ml1)).at j z7
      have hbd3 := q2.bd
      refine AW.region ?_
      refine st V.move ?_
      refine st V.move ?_
      refine st (V.ib i rfl z4 hA8) ?_
      refine st V.fa ?_
      first | refine st V.ld ?_ | refine sq V.lo ?_
      refine st V.move ?_
      refine st (V.ib j rfl z7 hA7) ?_
      refine st V.fa ?_
      first | refine st V.ld ?_ | refine sq V.lo ?_
      refine st V.assign ?_
      refine sn ?_
      refine AW.seq ?_
      refine AW.region ?_
      refine st V.assign ?_
      refine sn ?_
      refine AW.block ?_
      refine AW.loopL [6] (2 :: 32 :: 33 :: 34 :: 35 :: 36 :: 37 :: 38 :: 39 :: 40 :: 41 :: 42 :: 43 :: 44 :: []) (fun n vs M' H' => ∃ q : Nat, vs = [.int .i64 (q : Int)] ∧ H' = H ∧ q + n = d[i].cons[j].fields.length ∧ (∀ k (h : k < d[i].cons[j].fields.length), k < q → 0 ≤ d[i].cons[j].fields[k] ∧ d[i].cons[j].fields[k] ≤ d.length)) (d[i].cons[j].fields.length) (⟨0, rfl, rfl, by omega, fun k _ h => by omega⟩) ?_
      intro n2 Ml2 Hl2 iL2 u6 hI2 u2 u32 u33 u34 u35 u36 u37 u38 u39 u40 u41 u42 u43 u44
      obtain ⟨q, hv, hH, hq, hall2⟩ := hI2
      obtain rfl := hH.symm
      cases hv
      refine sa ?_
      refine AW.seq ?_
      refine AW.seq ?_
      refine AW.region ?_
      refine st V.move ?_
      refine st V.move ?_
      refine st V.len ?_
      refine st V.lss ?_
      refine sn ?_
      refine cond (fun h3 => ?_) (fun h3 => ?_)
      ·
        have k3 := bp h3
        refine AW.skip ?_
        refine AW.seq ?_
        refine AW.block ?_
        refine AW.seq ?_
        have z9 : q < d[i].cons[j].fields.length := by omega
        obtain ⟨b6, o6, hA6, e6⟩ := (q2.upI (M' := Ml2)).at q z9
        have e6 : Mk Ml2 b6 (o6 + q * 1) (.int .i64 d[i].cons[j].fields[q]) := e6
        refine AW.region ?_
        refine st V.move ?_
        refine st V.move ?_
        refine st V.move ?_
        refine st (V.ib q rfl z9 hA6) ?_
        first | refine st V.ld ?_ | refine sq V.lo ?_
        refine se (S.call ?_)
        refine (r_istype_c _ _ A c d.length (by omega) _).use ?_
        rintro v N G iz ⟨rfl, hG⟩
        obtain rfl := hG.symm
        refine st V.not ?_
        refine sn ?_
        refine cond (fun h4 => ?_) (fun h4 => ?_)
        ·
          have k4 := bp h4
          refine AW.seq ?_
          refine AW.region ?_
          refine st V.assign ?_
          refine sn ?_
          refine AW.ret ?_
          repeat with_reducible first | refine thn_ret ?_ | refine inb_ret ?_
          refine fin (Res.i1 rfl) ?_
          exact ⟨_, (by repeat first | exact List.Sublist.refl _ | apply List.Sublist.cons), tt_f (fun hT => k4 (hT i z4 j z7 _ (List.getElem_mem z9))), rfl⟩
        ·
          have k4 := bp h4
          refine AW.skip ?_
          refine AW.region ?_
          refine st V.move ?_
          refine st (V.add64 (by omega)) ?_
          refine st V.assign ?_
          refine sn ?_
          repeat with_reducible refine inb_normal ?_
          refine thn_normal ?_
          refine rnd (n2 - 1) _ (by omega) (List.Sublist.refl _) ⟨q + 1, by simp, rfl, by omega, fun k hk hkq => ?_⟩
          rcases Nat.lt_or_ge k q with h | h
          · exact hall2 k hk h
          · obtain rfl : k = q := by omega
            exact k4
      ·
        have k3 := bp h3
        refine AW.exit ?_
        repeat with_reducible refine thn_exit ?_
        refine inb_exit ?_
        refine AW.region ?_
        refine st V.move ?_
        refine st (V.add64 (by omega)) ?_
        refine st V.assign ?_
        refine sn ?_
        repeat with_reducible refine inb_normal ?_
        refine thn_normal ?_
        refine rnd (n1 - 1) _ (by omega) (List.Sublist.refl _) ⟨j + 1, by simp, rfl, by omega, fun k hk hkj f hf => ?_⟩
        rcases Nat.lt_or_ge k j with h | h
        · exact hall1 k hk h f hf
        · obtain rfl : k = j := by omega
          obtain ⟨q, hq, rfl⟩ := List.getElem_of_mem hf
          exact hall2 q hq (by omega)
    ·
      have k2 := bp h2
      refine AW.exit ?_
      repeat with_reducible refine thn_exit ?_
      refine inb_exit ?_
      refine AW.region ?_
      refine st V.move ?_
      refine st (V.add64 (by omega)) ?_
      refine st V.assign ?_
      refine sn ?_
      repeat with_reducible refine inb_normal ?_
      refine thn_normal ?_
      refine rnd (n - 1) _ (by omega) (List.Sublist.refl _) ⟨i + 1, by simp, rfl, by omega, fun k hk hki j' hj' f hf => ?_⟩
      rcases Nat.lt_or_ge k i with h | h
      · exact hall k hk h j' hj' f hf
      · obtain rfl : k = i := by omega
        exact hall1 j' hj' (by omega) f hf
  ·
    have k1 := bp h1
    refine AW.exit ?_
    repeat with_reducible refine thn_exit ?_
    refine inb_exit ?_
    refine AW.seq ?_
    refine AW.region ?_
    refine st V.assign ?_
    refine sn ?_
    refine AW.ret ?_
    repeat with_reducible first | refine thn_ret ?_ | refine inb_ret ?_
    refine fin (Res.i1 rfl) ?_
    exact ⟨_, (by repeat first | exact List.Sublist.refl _ | apply List.Sublist.cons), tt_t (fun k hk => hall k hk (by omega)), rfl⟩
set_option maxHeartbeats 1600000 in
set_option synthInstance.maxHeartbeats 400000 in
set_option synthInstance.maxSize 100000 in
set_option maxRecDepth 100000 in
theorem r_name_c (M : Mem) (H : Heap) (s : ByteArray) (hs : s.size ≤ 140737488355328) :
    AC Tryz.prog 87 [.string s] M H fun v _ H' => v = .bool (nameF s) ∧ H' = H := by
  refine AC.of (n := 55) Tryz.func87 rfl rfl ?_
  dsimp only [List.replicate, List.cons_append, List.nil_append]
  refine AW.seq ?_
  refine AW.region ?_
  refine st V.assign ?_
  refine sn ?_
  refine AW.seq ?_
  refine AW.seq ?_
  refine AW.region ?_
  refine st V.assign ?_
  refine sn ?_
  refine AW.block ?_
  refine AW.loopL [3] (2 :: 4 :: 5 :: 6 :: 7 :: 8 :: 9 :: 10 :: 11 :: 12 :: 13 :: 14 :: 15 :: 16 :: 17 :: 18 :: 19 :: 20 :: 21 :: 22 :: 23 :: 24 :: 25 :: 26 :: 27 :: 28 :: 29 :: 30 :: 31 :: 32 :: 33 :: 34 :: 35 :: 36 :: 37 :: 38 :: 39 :: 40 :: 41 :: 42 :: 43 :: 44 :: 45 :: 46 :: 47 :: []) (fun n vs M' H' => ∃ i : Nat, vs = [.int .i64 (i : Int)] ∧ H' = H ∧ i + n = s.size ∧ (∀ j : Nat, j < i → letB (byt s j) ∧ (j = 0 → 65 ≤ byt s j ∧ byt s j ≤ 90))) (s.size) (⟨0, rfl, rfl, by omega, fun j h => by omega⟩) ?_
  intro n Ml Hl iL u3 hI u2 u4 u5 u6 u7 u8 u9 u10 u11 u12 u13 u14 u15 u16 u17 u18 u19 u20 u21 u22 u23 u24 u25 u26 u27 u28 u29 u30 u31 u32 u33 u34 u35 u36 u37 u38 u39 u40 u41 u42 u43 u44 u45 u46 u47
  obtain ⟨i, hv, hH, hi, hall⟩ := hI
  obtain rfl := hH.symm
  cases hv
  refine sa ?_
  refine AW.seq ?_
  refine AW.seq ?_
  refine AW.region ?_
  refine st V.move ?_
  refine st V.move ?_
  refine st V.lenS ?_
  refine st V.lss ?_
  refine sn ?_
  refine cond (fun h1 => ?_) (fun h1 => ?_)
  ·
    have k1 := bp h1
    refine AW.skip ?_
    refine AW.seq ?_
    refine AW.block ?_
    refine AW.seq ?_
    refine AW.region ?_
    refine st V.move ?_
    refine st V.move ?_
    refine st (V.idx (by omega) (by omega)) ?_
    refine st V.assign ?_
    refine sn ?_
    refine AW.seq ?_
    refine AW.region ?_
    refine st V.move ?_
    refine st V.geq ?_
    refine st V.move ?_
    refine onoff false rfl rfl (fun h2 => ?_) (fun h2 => ?_)
    ·
      have k2 := bp h2
      refine st V.move ?_
      refine on rfl h2 ?_
      refine st V.leq ?_
      refine st (V.pT h2) ?_
      refine st V.assign ?_
      refine sn ?_
      refine AW.seq ?_
      refine AW.region ?_
      refine st V.move ?_
      refine st V.not ?_
      refine st V.move ?_
      refine onoff false rfl rfl (fun h3 => ?_) (fun h3 => ?_)
      ·
        have k3 := bp h3
        refine st V.move ?_
        refine on rfl h3 ?_
        refine st V.eql ?_
        refine on rfl h3 ?_
        refine st V.move ?_
        refine onoff true rfl rfl (fun h4 => ?_) (fun h4 => ?_)
        ·
          have k4 := bp h4
          refine st V.move ?_
          refine on rfl h4 ?_
          refine st V.geq ?_
          refine on rfl h4 ?_
          refine st V.move ?_
          refine onoff false rfl rfl (fun h5 => ?_) (fun h5 => ?_)
          ·
            have k5 := bp h5
            refine st V.move ?_
            refine on rfl h5 ?_
            refine st V.leq ?_
            refine on rfl h4 ?_
            refine st (V.pT h5) ?_
            refine on rfl h4 ?_
            refine st V.move ?_
            refine onoff true rfl rfl (fun h6 => ?_) (fun h6 => ?_)
            ·
              have k6 := bp h6
              refine st V.move ?_
              refine on rfl h6 ?_
              refine st V.geq ?_
              refine on rfl h6 ?_
              refine st V.move ?_
              refine onoff false rfl rfl (fun h7 => ?_) (fun h7 => ?_)
              ·
                have k7 := bp h7
                refine st V.move ?_
                refine on rfl h7 ?_
                refine st V.leq ?_
                refine on rfl h6 ?_
                refine st (V.pT h7) ?_
                refine on rfl h4 ?_
                refine st (V.pF h6) ?_
                refine on rfl h4 ?_
                refine st V.move ?_
                refine onoff true rfl rfl (fun h8 => ?_) (fun h8 => ?_)
                ·
                  have k8 := bp h8
                  refine st V.move ?_
                  refine on rfl h8 ?_
                  refine st V.eql ?_
                  refine on rfl h4 ?_
                  refine st (V.pF h8) ?_
                  refine on rfl h4 ?_
                  refine st V.not ?_
                  refine on rfl h3 ?_
                  refine st (V.pF h4) ?_
                  refine st (V.pT h3) ?_
                  refine sn ?_
                  refine cond (fun h9 => ?_) (fun h9 => ?_)
                  ·
                    have k9 := bp h9
                    refine AW.seq ?_
                    refine AW.region ?_
                    refine st V.assign ?_
                    refine sn ?_
                    refine AW.ret ?_
                    repeat with_reducible first | refine thn_ret ?_ | refine inb_ret ?_
                    refine fin (Res.i1 rfl) ?_
                    exact ⟨_, (by repeat first | exact List.Sublist.refl _ | apply List.Sublist.cons), by first | contradiction | exact nameF_0 i (by omega) (by omega) | exact nameF_i i (by omega) (by unfold letB; omega) | exact nameF_f (by omega) | exact nameF_t (by omega) (by omega) ((hall 0 (by omega)).2 rfl).1 ((hall 0 (by omega)).2 rfl).2 (fun j h => (hall j (by omega)).1) | (by_cases z : s.size ≤ 32; (rw [decide_eq_true (by omega)]; exact nameF_t (by omega) (by omega) ((hall 0 (by omega)).2 rfl).1 ((hall 0 (by omega)).2 rfl).2 (fun j h => (hall j (by omega)).1)); (rw [decide_eq_false (by omega)]; exact nameF_f (by omega))), rfl⟩
                  ·
                    have k9 := bp h9
                    refine AW.skip ?_
                    refine AW.region ?_
                    refine st V.move ?_
                    refine st (V.add64 (by omega)) ?_
                    refine st V.assign ?_
                    refine sn ?_
                    repeat with_reducible refine inb_normal ?_
                    refine thn_normal ?_
                    first
                      | contradiction
                      | (refine rnd (n - 1) _ (by omega) (List.Sublist.refl _) ⟨i + 1, by simp, rfl, by omega, fun j hj => ?_⟩
                         rcases Nat.lt_or_ge j i with hji | hji
                         · exact hall j hji
                         · obtain rfl : j = i := by omega
                           exact ⟨by unfold letB; omega, fun e => by omega⟩)
                ·
                  have k8 := bp h8
                  refine off rfl h8 ?_
                  refine on rfl h4 ?_
                  refine st (V.pT h8) ?_
                  refine on rfl h4 ?_
                  refine st V.not ?_
                  refine on rfl h3 ?_
                  refine st (V.pF h4) ?_
                  refine st (V.pT h3) ?_
                  refine sn ?_
                  refine cond (fun h10 => ?_) (fun h10 => ?_)
                  ·
                    have k10 := bp h10
                    refine AW.seq ?_
                    refine AW.region ?_
                    refine st V.assign ?_
                    refine sn ?_
                    refine AW.ret ?_
                    repeat with_reducible first | refine thn_ret ?_ | refine inb_ret ?_
                    refine fin (Res.i1 rfl) ?_
                    exact ⟨_, (by repeat first | exact List.Sublist.refl _ | apply List.Sublist.cons), by first | contradiction | exact nameF_0 i (by omega) (by omega) | exact nameF_i i (by omega) (by unfold letB; omega) | exact nameF_f (by omega) | exact nameF_t (by omega) (by omega) ((hall 0 (by omega)).2 rfl).1 ((hall 0 (by omega)).2 rfl).2 (fun j h => (hall j (by omega)).1) | (by_cases z : s.size ≤ 32; (rw [decide_eq_true (by omega)]; exact nameF_t (by omega) (by omega) ((hall 0 (by omega)).2 rfl).1 ((hall 0 (by omega)).2 rfl).2 (fun j h => (hall j (by omega)).1)); (rw [decide_eq_false (by omega)]; exact nameF_f (by omega))), rfl⟩
                  ·
                    have k10 := bp h10
                    refine AW.skip ?_
                    refine AW.region ?_
                    refine st V.move ?_
                    refine st (V.add64 (by omega)) ?_
                    refine st V.assign ?_
                    refine sn ?_
                    repeat with_reducible refine inb_normal ?_
                    refine thn_normal ?_
                    first
                      | contradiction
                      | (refine rnd (n - 1) _ (by omega) (List.Sublist.refl _) ⟨i + 1, by simp, rfl, by omega, fun j hj => ?_⟩
                         rcases Nat.lt_or_ge j i with hji | hji
                         · exact hall j hji
                         · obtain rfl : j = i := by omega
                           exact ⟨by unfold letB; omega, fun e => by omega⟩)
              ·
                have k7 := bp h7
                refine off rfl h7 ?_
                refine on rfl h6 ?_
                refine st (V.pF h7) ?_
                refine on rfl h4 ?_
                refine st (V.pF h6) ?_
                refine on rfl h4 ?_
                refine st V.move ?_
                refine on rfl rfl ?_
                refine st V.move ?_
                refine on rfl rfl ?_
                refine st V.eql ?_
                refine on rfl h4 ?_
                refine st (V.pF rfl) ?_
                refine on rfl h4 ?_
                refine st V.not ?_
                refine on rfl h3 ?_
                refine st (V.pF h4) ?_
                refine st (V.pT h3) ?_
                refine sn ?_
                refine cond (fun h11 => ?_) (fun h11 => ?_)
                ·
                  have k11 := bp h11
                  refine AW.seq ?_
                  refine AW.region ?_
                  refine st V.assign ?_
                  refine sn ?_
                  refine AW.ret ?_
                  repeat with_reducible first | refine thn_ret ?_ | refine inb_ret ?_
                  refine fin (Res.i1 rfl) ?_
                  exact ⟨_, (by repeat first | exact List.Sublist.refl _ | apply List.Sublist.cons), by first | contradiction | exact nameF_0 i (by omega) (by omega) | exact nameF_i i (by omega) (by unfold letB; omega) | exact nameF_f (by omega) | exact nameF_t (by omega) (by omega) ((hall 0 (by omega)).2 rfl).1 ((hall 0 (by omega)).2 rfl).2 (fun j h => (hall j (by omega)).1) | (by_cases z : s.size ≤ 32; (rw [decide_eq_true (by omega)]; exact nameF_t (by omega) (by omega) ((hall 0 (by omega)).2 rfl).1 ((hall 0 (by omega)).2 rfl).2 (fun j h => (hall j (by omega)).1)); (rw [decide_eq_false (by omega)]; exact nameF_f (by omega))), rfl⟩
                ·
                  have k11 := bp h11
                  refine AW.skip ?_
                  refine AW.region ?_
                  refine st V.move ?_
                  refine st (V.add64 (by omega)) ?_
                  refine st V.assign ?_
                  refine sn ?_
                  repeat with_reducible refine inb_normal ?_
                  refine thn_normal ?_
                  first
                    | contradiction
                    | (refine rnd (n - 1) _ (by omega) (List.Sublist.refl _) ⟨i + 1, by simp, rfl, by omega, fun j hj => ?_⟩
                       rcases Nat.lt_or_ge j i with hji | hji
                       · exact hall j hji
                       · obtain rfl : j = i := by omega
                         exact ⟨by unfold letB; omega, fun e => by omega⟩)
            ·
              have k6 := bp h6
              refine off rfl h6 ?_
              refine off rfl h6 ?_
              refine offU rfl ?_
              refine offU rfl ?_
              refine off rfl h6 ?_
              refine on rfl h4 ?_
              refine st (V.pT h6) ?_
              refine on rfl h4 ?_
              refine st V.move ?_
              refine off rfl rfl ?_
              refine off rfl rfl ?_
              refine on rfl h4 ?_
              refine st (V.pT rfl) ?_
              refine on rfl h4 ?_
              refine st V.not ?_
              refine on rfl h3 ?_
              refine st (V.pF h4) ?_
              refine st (V.pT h3) ?_
              refine sn ?_
              refine cond (fun h12 => ?_) (fun h12 => ?_)
              ·
                have k12 := bp h12
                refine AW.seq ?_
                refine AW.region ?_
                refine st V.assign ?_
                refine sn ?_
                refine AW.ret ?_
                repeat with_reducible first | refine thn_ret ?_ | refine inb_ret ?_
                refine fin (Res.i1 rfl) ?_
                exact ⟨_, (by repeat first | exact List.Sublist.refl _ | apply List.Sublist.cons), by first | contradiction | exact nameF_0 i (by omega) (by omega) | exact nameF_i i (by omega) (by unfold letB; omega) | exact nameF_f (by omega) | exact nameF_t (by omega) (by omega) ((hall 0 (by omega)).2 rfl).1 ((hall 0 (by omega)).2 rfl).2 (fun j h => (hall j (by omega)).1) | (by_cases z : s.size ≤ 32; (rw [decide_eq_true (by omega)]; exact nameF_t (by omega) (by omega) ((hall 0 (by omega)).2 rfl).1 ((hall 0 (by omega)).2 rfl).2 (fun j h => (hall j (by omega)).1)); (rw [decide_eq_false (by omega)]; exact nameF_f (by omega))), rfl⟩
              ·
                have k12 := bp h12
                refine AW.skip ?_
                refine AW.region ?_
                refine st V.move ?_
                refine st (V.add64 (by omega)) ?_
                refine st V.assign ?_
                refine sn ?_
                repeat with_reducible refine inb_normal ?_
                refine thn_normal ?_
                first
                  | contradiction
                  | (refine rnd (n - 1) _ (by omega) (List.Sublist.refl _) ⟨i + 1, by simp, rfl, by omega, fun j hj => ?_⟩
                     rcases Nat.lt_or_ge j i with hji | hji
                     · exact hall j hji
                     · obtain rfl : j = i := by omega
                       exact ⟨by unfold letB; omega, fun e => by omega⟩)
          ·
            have k5 := bp h5
            refine off rfl h5 ?_
            refine on rfl h4 ?_
            refine st (V.pF h5) ?_
            refine on rfl h4 ?_
            refine st V.move ?_
            refine on rfl rfl ?_
            refine st V.move ?_
            refine on rfl rfl ?_
            refine st V.geq ?_
            refine on rfl rfl ?_
            refine st V.move ?_
            refine onoff false rfl rfl (fun h13 => ?_) (fun h13 => ?_)
            ·
              have k13 := bp h13
              refine st V.move ?_
              refine on rfl h13 ?_
              refine st V.leq ?_
              refine on rfl rfl ?_
              refine st (V.pT h13) ?_
              refine on rfl h4 ?_
              refine st (V.pF rfl) ?_
              refine on rfl h4 ?_
              refine st V.move ?_
              refine onoff true rfl rfl (fun h14 => ?_) (fun h14 => ?_)
              ·
                have k14 := bp h14
                refine st V.move ?_
                refine on rfl h14 ?_
                refine st V.eql ?_
                refine on rfl h4 ?_
                refine st (V.pF h14) ?_
                refine on rfl h4 ?_
                refine st V.not ?_
                refine on rfl h3 ?_
                refine st (V.pF h4) ?_
                refine st (V.pT h3) ?_
                refine sn ?_
                refine cond (fun h15 => ?_) (fun h15 => ?_)
                ·
                  have k15 := bp h15
                  refine AW.seq ?_
                  refine AW.region ?_
                  refine st V.assign ?_
                  refine sn ?_
                  refine AW.ret ?_
                  repeat with_reducible first | refine thn_ret ?_ | refine inb_ret ?_
                  refine fin (Res.i1 rfl) ?_
                  exact ⟨_, (by repeat first | exact List.Sublist.refl _ | apply List.Sublist.cons), by first | contradiction | exact nameF_0 i (by omega) (by omega) | exact nameF_i i (by omega) (by unfold letB; omega) | exact nameF_f (by omega) | exact nameF_t (by omega) (by omega) ((hall 0 (by omega)).2 rfl).1 ((hall 0 (by omega)).2 rfl).2 (fun j h => (hall j (by omega)).1) | (by_cases z : s.size ≤ 32; (rw [decide_eq_true (by omega)]; exact nameF_t (by omega) (by omega) ((hall 0 (by omega)).2 rfl).1 ((hall 0 (by omega)).2 rfl).2 (fun j h => (hall j (by omega)).1)); (rw [decide_eq_false (by omega)]; exact nameF_f (by omega))), rfl⟩
                ·
                  have k15 := bp h15
                  refine AW.skip ?_
                  refine AW.region ?_
                  refine st V.move ?_
                  refine st (V.add64 (by omega)) ?_
                  refine st V.assign ?_
                  refine sn ?_
                  repeat with_reducible refine inb_normal ?_
                  refine thn_normal ?_
                  first
                    | contradiction
                    | (refine rnd (n - 1) _ (by omega) (List.Sublist.refl _) ⟨i + 1, by simp, rfl, by omega, fun j hj => ?_⟩
                       rcases Nat.lt_or_ge j i with hji | hji
                       · exact hall j hji
                       · obtain rfl : j = i := by omega
                         exact ⟨by unfold letB; omega, fun e => by omega⟩)
              ·
                have k14 := bp h14
                refine off rfl h14 ?_
                refine on rfl h4 ?_
                refine st (V.pT h14) ?_
                refine on rfl h4 ?_
                refine st V.not ?_
                refine on rfl h3 ?_
                refine st (V.pF h4) ?_
                refine st (V.pT h3) ?_
                refine sn ?_
                refine cond (fun h16 => ?_) (fun h16 => ?_)
                ·
                  have k16 := bp h16
                  refine AW.seq ?_
                  refine AW.region ?_
                  refine st V.assign ?_
                  refine sn ?_
                  refine AW.ret ?_
                  repeat with_reducible first | refine thn_ret ?_ | refine inb_ret ?_
                  refine fin (Res.i1 rfl) ?_
                  exact ⟨_, (by repeat first | exact List.Sublist.refl _ | apply List.Sublist.cons), by first | contradiction | exact nameF_0 i (by omega) (by omega) | exact nameF_i i (by omega) (by unfold letB; omega) | exact nameF_f (by omega) | exact nameF_t (by omega) (by omega) ((hall 0 (by omega)).2 rfl).1 ((hall 0 (by omega)).2 rfl).2 (fun j h => (hall j (by omega)).1) | (by_cases z : s.size ≤ 32; (rw [decide_eq_true (by omega)]; exact nameF_t (by omega) (by omega) ((hall 0 (by omega)).2 rfl).1 ((hall 0 (by omega)).2 rfl).2 (fun j h => (hall j (by omega)).1)); (rw [decide_eq_false (by omega)]; exact nameF_f (by omega))), rfl⟩
                ·
                  have k16 := bp h16
                  refine AW.skip ?_
                  refine AW.region ?_
                  refine st V.move ?_
                  refine st (V.add64 (by omega)) ?_
                  refine st V.assign ?_
                  refine sn ?_
                  repeat with_reducible refine inb_normal ?_
                  refine thn_normal ?_
                  first
                    | contradiction
                    | (refine rnd (n - 1) _ (by omega) (List.Sublist.refl _) ⟨i + 1, by simp, rfl, by omega, fun j hj => ?_⟩
                       rcases Nat.lt_or_ge j i with hji | hji
                       · exact hall j hji
                       · obtain rfl : j = i := by omega
                         exact ⟨by unfold letB; omega, fun e => by omega⟩)
            ·
              have k13 := bp h13
              refine off rfl h13 ?_
              refine on rfl rfl ?_
              refine st (V.pF h13) ?_
              refine on rfl h4 ?_
              refine st (V.pF rfl) ?_
              refine on rfl h4 ?_
              refine st V.move ?_
              refine on rfl rfl ?_
              refine st V.move ?_
              refine on rfl rfl ?_
              refine st V.eql ?_
              refine on rfl h4 ?_
              refine st (V.pF rfl) ?_
              refine on rfl h4 ?_
              refine st V.not ?_
              refine on rfl h3 ?_
              refine st (V.pF h4) ?_
              refine st (V.pT h3) ?_
              refine sn ?_
              refine cond (fun h17 => ?_) (fun h17 => ?_)
              ·
                have k17 := bp h17
                refine AW.seq ?_
                refine AW.region ?_
                refine st V.assign ?_
                refine sn ?_
                refine AW.ret ?_
                repeat with_reducible first | refine thn_ret ?_ | refine inb_ret ?_
                refine fin (Res.i1 rfl) ?_
                exact ⟨_, (by repeat first | exact List.Sublist.refl _ | apply List.Sublist.cons), by first | contradiction | exact nameF_0 i (by omega) (by omega) | exact nameF_i i (by omega) (by unfold letB; omega) | exact nameF_f (by omega) | exact nameF_t (by omega) (by omega) ((hall 0 (by omega)).2 rfl).1 ((hall 0 (by omega)).2 rfl).2 (fun j h => (hall j (by omega)).1) | (by_cases z : s.size ≤ 32; (rw [decide_eq_true (by omega)]; exact nameF_t (by omega) (by omega) ((hall 0 (by omega)).2 rfl).1 ((hall 0 (by omega)).2 rfl).2 (fun j h => (hall j (by omega)).1)); (rw [decide_eq_false (by omega)]; exact nameF_f (by omega))), rfl⟩
              ·
                have k17 := bp h17
                refine AW.skip ?_
                refine AW.region ?_
                refine st V.move ?_
                refine st (V.add64 (by omega)) ?_
                refine st V.assign ?_
                refine sn ?_
                repeat with_reducible refine inb_normal ?_
                refine thn_normal ?_
                first
                  | contradiction
                  | (refine rnd (n - 1) _ (by omega) (List.Sublist.refl _) ⟨i + 1, by simp, rfl, by omega, fun j hj => ?_⟩
                     rcases Nat.lt_or_ge j i with hji | hji
                     · exact hall j hji
                     · obtain rfl : j = i := by omega
                       exact ⟨by unfold letB; omega, fun e => by omega⟩)
        ·
          have k4 := bp h4
          refine off rfl h4 ?_
          refine off rfl h4 ?_
          refine offU rfl ?_
          refine offU rfl ?_
          refine off rfl h4 ?_
          refine off rfl h4 ?_
          refine offU rfl ?_
          refine offU rfl ?_
          refine offU rfl ?_
          refine offU rfl ?_
          refine offU rfl ?_
          refine offU rfl ?_
          refine off rfl h4 ?_
          refine off rfl h4 ?_
          refine offU rfl ?_
          refine offU rfl ?_
          refine off rfl h4 ?_
          refine off rfl h4 ?_
          refine on rfl h3 ?_
          refine st (V.pT h4) ?_
          refine st (V.pT h3) ?_
          refine sn ?_
          refine cond (fun _ => ?_) (fun h => by cases h)
          refine AW.seq ?_
          refine AW.region ?_
          refine st V.assign ?_
          refine sn ?_
          refine AW.ret ?_
          repeat with_reducible first | refine thn_ret ?_ | refine inb_ret ?_
          refine fin (Res.i1 rfl) ?_
          exact ⟨_, (by repeat first | exact List.Sublist.refl _ | apply List.Sublist.cons), by first | contradiction | exact nameF_0 i (by omega) (by omega) | exact nameF_i i (by omega) (by unfold letB; omega) | exact nameF_f (by omega) | exact nameF_t (by omega) (by omega) ((hall 0 (by omega)).2 rfl).1 ((hall 0 (by omega)).2 rfl).2 (fun j h => (hall j (by omega)).1) | (by_cases z : s.size ≤ 32; (rw [decide_eq_true (by omega)]; exact nameF_t (by omega) (by omega) ((hall 0 (by omega)).2 rfl).1 ((hall 0 (by omega)).2 rfl).2 (fun j h => (hall j (by omega)).1)); (rw [decide_eq_false (by omega)]; exact nameF_f (by omega))), rfl⟩
      ·
        have k3 := bp h3
        refine off rfl h3 ?_
        refine off rfl h3 ?_
        refine offU rfl ?_
        refine offU rfl ?_
        refine offU rfl ?_
        refine offU rfl ?_
        refine offU rfl ?_
        refine offU rfl ?_
        refine offU rfl ?_
        refine offU rfl ?_
        refine offU rfl ?_
        refine offU rfl ?_
        refine offU rfl ?_
        refine offU rfl ?_
        refine offU rfl ?_
        refine offU rfl ?_
        refine offU rfl ?_
        refine offU rfl ?_
        refine offU rfl ?_
        refine offU rfl ?_
        refine offU rfl ?_
        refine off rfl h3 ?_
        refine st (V.pF h3) ?_
        refine sn ?_
        refine cond (fun h => by cases h) (fun _ => ?_)
        refine AW.skip ?_
        refine AW.region ?_
        refine st V.move ?_
        refine st (V.add64 (by omega)) ?_
        refine st V.assign ?_
        refine sn ?_
        repeat with_reducible refine inb_normal ?_
        refine thn_normal ?_
        first
          | contradiction
          | (refine rnd (n - 1) _ (by omega) (List.Sublist.refl _) ⟨i + 1, by simp, rfl, by omega, fun j hj => ?_⟩
             rcases Nat.lt_or_ge j i with hji | hji
             · exact hall j hji
             · obtain rfl : j = i := by omega
               exact ⟨by unfold letB; omega, fun e => by omega⟩)
    ·
      have k2 := bp h2
      refine off rfl h2 ?_
      refine st (V.pF h2) ?_
      refine st V.assign ?_
      refine sn ?_
      refine AW.seq ?_
      refine AW.region ?_
      refine st V.move ?_
      refine st V.not ?_
      refine st V.move ?_
      refine onoff false rfl rfl (fun h20 => ?_) (fun h20 => ?_)
      ·
        have k20 := bp h20
        refine st V.move ?_
        refine on rfl h20 ?_
        refine st V.eql ?_
        refine on rfl h20 ?_
        refine st V.move ?_
        refine onoff true rfl rfl (fun h21 => ?_) (fun h21 => ?_)
        ·
          have k21 := bp h21
          refine st V.move ?_
          refine on rfl h21 ?_
          refine st V.geq ?_
          refine on rfl h21 ?_
          refine st V.move ?_
          refine onoff false rfl rfl (fun h22 => ?_) (fun h22 => ?_)
          ·
            have k22 := bp h22
            refine st V.move ?_
            refine on rfl h22 ?_
            refine st V.leq ?_
            refine on rfl h21 ?_
            refine st (V.pT h22) ?_
            refine on rfl h21 ?_
            refine st V.move ?_
            refine onoff true rfl rfl (fun h23 => ?_) (fun h23 => ?_)
            ·
              have k23 := bp h23
              refine st V.move ?_
              refine on rfl h23 ?_
              refine st V.geq ?_
              refine on rfl h23 ?_
              refine st V.move ?_
              refine onoff false rfl rfl (fun h24 => ?_) (fun h24 => ?_)
              ·
                have k24 := bp h24
                refine st V.move ?_
                refine on rfl h24 ?_
                refine st V.leq ?_
                refine on rfl h23 ?_
                refine st (V.pT h24) ?_
                refine on rfl h21 ?_
                refine st (V.pF h23) ?_
                refine on rfl h21 ?_
                refine st V.move ?_
                refine onoff true rfl rfl (fun h25 => ?_) (fun h25 => ?_)
                ·
                  have k25 := bp h25
                  refine st V.move ?_
                  refine on rfl h25 ?_
                  refine st V.eql ?_
                  refine on rfl h21 ?_
                  refine st (V.pF h25) ?_
                  refine on rfl h21 ?_
                  refine st V.not ?_
                  refine on rfl h20 ?_
                  refine st (V.pF h21) ?_
                  refine st (V.pT h20) ?_
                  refine sn ?_
                  refine cond (fun h26 => ?_) (fun h26 => ?_)
                  ·
                    have k26 := bp h26
                    refine AW.seq ?_
                    refine AW.region ?_
                    refine st V.assign ?_
                    refine sn ?_
                    refine AW.ret ?_
                    repeat with_reducible first | refine thn_ret ?_ | refine inb_ret ?_
                    refine fin (Res.i1 rfl) ?_
                    exact ⟨_, (by repeat first | exact List.Sublist.refl _ | apply List.Sublist.cons), by first | contradiction | exact nameF_0 i (by omega) (by omega) | exact nameF_i i (by omega) (by unfold letB; omega) | exact nameF_f (by omega) | exact nameF_t (by omega) (by omega) ((hall 0 (by omega)).2 rfl).1 ((hall 0 (by omega)).2 rfl).2 (fun j h => (hall j (by omega)).1) | (by_cases z : s.size ≤ 32; (rw [decide_eq_true (by omega)]; exact nameF_t (by omega) (by omega) ((hall 0 (by omega)).2 rfl).1 ((hall 0 (by omega)).2 rfl).2 (fun j h => (hall j (by omega)).1)); (rw [decide_eq_false (by omega)]; exact nameF_f (by omega))), rfl⟩
                  ·
                    have k26 := bp h26
                    refine AW.skip ?_
                    refine AW.region ?_
                    refine st V.move ?_
                    refine st (V.add64 (by omega)) ?_
                    refine st V.assign ?_
                    refine sn ?_
                    repeat with_reducible refine inb_normal ?_
                    refine thn_normal ?_
                    first
                      | contradiction
                      | (refine rnd (n - 1) _ (by omega) (List.Sublist.refl _) ⟨i + 1, by simp, rfl, by omega, fun j hj => ?_⟩
                         rcases Nat.lt_or_ge j i with hji | hji
                         · exact hall j hji
                         · obtain rfl : j = i := by omega
                           exact ⟨by unfold letB; omega, fun e => by omega⟩)
                ·
                  have k25 := bp h25
                  refine off rfl h25 ?_
                  refine on rfl h21 ?_
                  refine st (V.pT h25) ?_
                  refine on rfl h21 ?_
                  refine st V.not ?_
                  refine on rfl h20 ?_
                  refine st (V.pF h21) ?_
                  refine st (V.pT h20) ?_
                  refine sn ?_
                  refine cond (fun h27 => ?_) (fun h27 => ?_)
                  ·
                    have k27 := bp h27
                    refine AW.seq ?_
                    refine AW.region ?_
                    refine st V.assign ?_
                    refine sn ?_
                    refine AW.ret ?_
                    repeat with_reducible first | refine thn_ret ?_ | refine inb_ret ?_
                    refine fin (Res.i1 rfl) ?_
                    exact ⟨_, (by repeat first | exact List.Sublist.refl _ | apply List.Sublist.cons), by first | contradiction | exact nameF_0 i (by omega) (by omega) | exact nameF_i i (by omega) (by unfold letB; omega) | exact nameF_f (by omega) | exact nameF_t (by omega) (by omega) ((hall 0 (by omega)).2 rfl).1 ((hall 0 (by omega)).2 rfl).2 (fun j h => (hall j (by omega)).1) | (by_cases z : s.size ≤ 32; (rw [decide_eq_true (by omega)]; exact nameF_t (by omega) (by omega) ((hall 0 (by omega)).2 rfl).1 ((hall 0 (by omega)).2 rfl).2 (fun j h => (hall j (by omega)).1)); (rw [decide_eq_false (by omega)]; exact nameF_f (by omega))), rfl⟩
                  ·
                    have k27 := bp h27
                    refine AW.skip ?_
                    refine AW.region ?_
                    refine st V.move ?_
                    refine st (V.add64 (by omega)) ?_
                    refine st V.assign ?_
                    refine sn ?_
                    repeat with_reducible refine inb_normal ?_
                    refine thn_normal ?_
                    first
                      | contradiction
                      | (refine rnd (n - 1) _ (by omega) (List.Sublist.refl _) ⟨i + 1, by simp, rfl, by omega, fun j hj => ?_⟩
                         rcases Nat.lt_or_ge j i with hji | hji
                         · exact hall j hji
                         · obtain rfl : j = i := by omega
                           exact ⟨by unfold letB; omega, fun e => by omega⟩)
              ·
                have k24 := bp h24
                refine off rfl h24 ?_
                refine on rfl h23 ?_
                refine st (V.pF h24) ?_
                refine on rfl h21 ?_
                refine st (V.pF h23) ?_
                refine on rfl h21 ?_
                refine st V.move ?_
                refine on rfl rfl ?_
                refine st V.move ?_
                refine on rfl rfl ?_
                refine st V.eql ?_
                refine on rfl h21 ?_
                refine st (V.pF rfl) ?_
                refine on rfl h21 ?_
                refine st V.not ?_
                refine on rfl h20 ?_
                refine st (V.pF h21) ?_
                refine st (V.pT h20) ?_
                refine sn ?_
                refine cond (fun h28 => ?_) (fun h28 => ?_)
                ·
                  have k28 := bp h28
                  refine AW.seq ?_
                  refine AW.region ?_
                  refine st V.assign ?_
                  refine sn ?_
                  refine AW.ret ?_
                  repeat with_reducible first | refine thn_ret ?_ | refine inb_ret ?_
                  refine fin (Res.i1 rfl) ?_
                  exact ⟨_, (by repeat first | exact List.Sublist.refl _ | apply List.Sublist.cons), by first | contradiction | exact nameF_0 i (by omega) (by omega) | exact nameF_i i (by omega) (by unfold letB; omega) | exact nameF_f (by omega) | exact nameF_t (by omega) (by omega) ((hall 0 (by omega)).2 rfl).1 ((hall 0 (by omega)).2 rfl).2 (fun j h => (hall j (by omega)).1) | (by_cases z : s.size ≤ 32; (rw [decide_eq_true (by omega)]; exact nameF_t (by omega) (by omega) ((hall 0 (by omega)).2 rfl).1 ((hall 0 (by omega)).2 rfl).2 (fun j h => (hall j (by omega)).1)); (rw [decide_eq_false (by omega)]; exact nameF_f (by omega))), rfl⟩
                ·
                  have k28 := bp h28
                  refine AW.skip ?_
                  refine AW.region ?_
                  refine st V.move ?_
                  refine st (V.add64 (by omega)) ?_
                  refine st V.assign ?_
                  refine sn ?_
                  repeat with_reducible refine inb_normal ?_
                  refine thn_normal ?_
                  first
                    | contradiction
                    | (refine rnd (n - 1) _ (by omega) (List.Sublist.refl _) ⟨i + 1, by simp, rfl, by omega, fun j hj => ?_⟩
                       rcases Nat.lt_or_ge j i with hji | hji
                       · exact hall j hji
                       · obtain rfl : j = i := by omega
                         exact ⟨by unfold letB; omega, fun e => by omega⟩)
            ·
              have k23 := bp h23
              refine off rfl h23 ?_
              refine off rfl h23 ?_
              refine offU rfl ?_
              refine offU rfl ?_
              refine off rfl h23 ?_
              refine on rfl h21 ?_
              refine st (V.pT h23) ?_
              refine on rfl h21 ?_
              refine st V.move ?_
              refine off rfl rfl ?_
              refine off rfl rfl ?_
              refine on rfl h21 ?_
              refine st (V.pT rfl) ?_
              refine on rfl h21 ?_
              refine st V.not ?_
              refine on rfl h20 ?_
              refine st (V.pF h21) ?_
              refine st (V.pT h20) ?_
              refine sn ?_
              refine cond (fun h29 => ?_) (fun h29 => ?_)
              ·
                have k29 := bp h29
                refine AW.seq ?_
                refine AW.region ?_
                refine st V.assign ?_
                refine sn ?_
                refine AW.ret ?_
                repeat with_reducible first | refine thn_ret ?_ | refine inb_ret ?_
                refine fin (Res.i1 rfl) ?_
                exact ⟨_, (by repeat first | exact List.Sublist.refl _ | apply List.Sublist.cons), by first | contradiction | exact nameF_0 i (by omega) (by omega) | exact nameF_i i (by omega) (by unfold letB; omega) | exact nameF_f (by omega) | exact nameF_t (by omega) (by omega) ((hall 0 (by omega)).2 rfl).1 ((hall 0 (by omega)).2 rfl).2 (fun j h => (hall j (by omega)).1) | (by_cases z : s.size ≤ 32; (rw [decide_eq_true (by omega)]; exact nameF_t (by omega) (by omega) ((hall 0 (by omega)).2 rfl).1 ((hall 0 (by omega)).2 rfl).2 (fun j h => (hall j (by omega)).1)); (rw [decide_eq_false (by omega)]; exact nameF_f (by omega))), rfl⟩
              ·
                have k29 := bp h29
                refine AW.skip ?_
                refine AW.region ?_
                refine st V.move ?_
                refine st (V.add64 (by omega)) ?_
                refine st V.assign ?_
                refine sn ?_
                repeat with_reducible refine inb_normal ?_
                refine thn_normal ?_
                first
                  | contradiction
                  | (refine rnd (n - 1) _ (by omega) (List.Sublist.refl _) ⟨i + 1, by simp, rfl, by omega, fun j hj => ?_⟩
                     rcases Nat.lt_or_ge j i with hji | hji
                     · exact hall j hji
                     · obtain rfl : j = i := by omega
                       exact ⟨by unfold letB; omega, fun e => by omega⟩)
          ·
            have k22 := bp h22
            refine off rfl h22 ?_
            refine on rfl h21 ?_
            refine st (V.pF h22) ?_
            refine on rfl h21 ?_
            refine st V.move ?_
            refine on rfl rfl ?_
            refine st V.move ?_
            refine on rfl rfl ?_
            refine st V.geq ?_
            refine on rfl rfl ?_
            refine st V.move ?_
            refine onoff false rfl rfl (fun h30 => ?_) (fun h30 => ?_)
            ·
              have k30 := bp h30
              refine st V.move ?_
              refine on rfl h30 ?_
              refine st V.leq ?_
              refine on rfl rfl ?_
              refine st (V.pT h30) ?_
              refine on rfl h21 ?_
              refine st (V.pF rfl) ?_
              refine on rfl h21 ?_
              refine st V.move ?_
              refine onoff true rfl rfl (fun h31 => ?_) (fun h31 => ?_)
              ·
                have k31 := bp h31
                refine st V.move ?_
                refine on rfl h31 ?_
                refine st V.eql ?_
                refine on rfl h21 ?_
                refine st (V.pF h31) ?_
                refine on rfl h21 ?_
                refine st V.not ?_
                refine on rfl h20 ?_
                refine st (V.pF h21) ?_
                refine st (V.pT h20) ?_
                refine sn ?_
                refine cond (fun h32 => ?_) (fun h32 => ?_)
                ·
                  have k32 := bp h32
                  refine AW.seq ?_
                  refine AW.region ?_
                  refine st V.assign ?_
                  refine sn ?_
                  refine AW.ret ?_
                  repeat with_reducible first | refine thn_ret ?_ | refine inb_ret ?_
                  refine fin (Res.i1 rfl) ?_
                  exact ⟨_, (by repeat first | exact List.Sublist.refl _ | apply List.Sublist.cons), by first | contradiction | exact nameF_0 i (by omega) (by omega) | exact nameF_i i (by omega) (by unfold letB; omega) | exact nameF_f (by omega) | exact nameF_t (by omega) (by omega) ((hall 0 (by omega)).2 rfl).1 ((hall 0 (by omega)).2 rfl).2 (fun j h => (hall j (by omega)).1) | (by_cases z : s.size ≤ 32; (rw [decide_eq_true (by omega)]; exact nameF_t (by omega) (by omega) ((hall 0 (by omega)).2 rfl).1 ((hall 0 (by omega)).2 rfl).2 (fun j h => (hall j (by omega)).1)); (rw [decide_eq_false (by omega)]; exact nameF_f (by omega))), rfl⟩
                ·
                  have k32 := bp h32
                  refine AW.skip ?_
                  refine AW.region ?_
                  refine st V.move ?_
                  refine st (V.add64 (by omega)) ?_
                  refine st V.assign ?_
                  refine sn ?_
                  repeat with_reducible refine inb_normal ?_
                  refine thn_normal ?_
                  first
                    | contradiction
                    | (refine rnd (n - 1) _ (by omega) (List.Sublist.refl _) ⟨i + 1, by simp, rfl, by omega, fun j hj => ?_⟩
                       rcases Nat.lt_or_ge j i with hji | hji
                       · exact hall j hji
                       · obtain rfl : j = i := by omega
                         exact ⟨by unfold letB; omega, fun e => by omega⟩)
              ·
                have k31 := bp h31
                refine off rfl h31 ?_
                refine on rfl h21 ?_
                refine st (V.pT h31) ?_
                refine on rfl h21 ?_
                refine st V.not ?_
                refine on rfl h20 ?_
                refine st (V.pF h21) ?_
                refine st (V.pT h20) ?_
                refine sn ?_
                refine cond (fun h33 => ?_) (fun h33 => ?_)
                ·
                  have k33 := bp h33
                  refine AW.seq ?_
                  refine AW.region ?_
                  refine st V.assign ?_
                  refine sn ?_
                  refine AW.ret ?_
                  repeat with_reducible first | refine thn_ret ?_ | refine inb_ret ?_
                  refine fin (Res.i1 rfl) ?_
                  exact ⟨_, (by repeat first | exact List.Sublist.refl _ | apply List.Sublist.cons), by first | contradiction | exact nameF_0 i (by omega) (by omega) | exact nameF_i i (by omega) (by unfold letB; omega) | exact nameF_f (by omega) | exact nameF_t (by omega) (by omega) ((hall 0 (by omega)).2 rfl).1 ((hall 0 (by omega)).2 rfl).2 (fun j h => (hall j (by omega)).1) | (by_cases z : s.size ≤ 32; (rw [decide_eq_true (by omega)]; exact nameF_t (by omega) (by omega) ((hall 0 (by omega)).2 rfl).1 ((hall 0 (by omega)).2 rfl).2 (fun j h => (hall j (by omega)).1)); (rw [decide_eq_false (by omega)]; exact nameF_f (by omega))), rfl⟩
                ·
                  have k33 := bp h33
                  refine AW.skip ?_
                  refine AW.region ?_
                  refine st V.move ?_
                  refine st (V.add64 (by omega)) ?_
                  refine st V.assign ?_
                  refine sn ?_
                  repeat with_reducible refine inb_normal ?_
                  refine thn_normal ?_
                  first
                    | contradiction
                    | (refine rnd (n - 1) _ (by omega) (List.Sublist.refl _) ⟨i + 1, by simp, rfl, by omega, fun j hj => ?_⟩
                       rcases Nat.lt_or_ge j i with hji | hji
                       · exact hall j hji
                       · obtain rfl : j = i := by omega
                         exact ⟨by unfold letB; omega, fun e => by omega⟩)
            ·
              have k30 := bp h30
              refine off rfl h30 ?_
              refine on rfl rfl ?_
              refine st (V.pF h30) ?_
              refine on rfl h21 ?_
              refine st (V.pF rfl) ?_
              refine on rfl h21 ?_
              refine st V.move ?_
              refine on rfl rfl ?_
              refine st V.move ?_
              refine on rfl rfl ?_
              refine st V.eql ?_
              refine on rfl h21 ?_
              refine st (V.pF rfl) ?_
              refine on rfl h21 ?_
              refine st V.not ?_
              refine on rfl h20 ?_
              refine st (V.pF h21) ?_
              refine st (V.pT h20) ?_
              refine sn ?_
              refine cond (fun h34 => ?_) (fun h34 => ?_)
              ·
                have k34 := bp h34
                refine AW.seq ?_
                refine AW.region ?_
                refine st V.assign ?_
                refine sn ?_
                refine AW.ret ?_
                repeat with_reducible first | refine thn_ret ?_ | refine inb_ret ?_
                refine fin (Res.i1 rfl) ?_
                exact ⟨_, (by repeat first | exact List.Sublist.refl _ | apply List.Sublist.cons), by first | contradiction | exact nameF_0 i (by omega) (by omega) | exact nameF_i i (by omega) (by unfold letB; omega) | exact nameF_f (by omega) | exact nameF_t (by omega) (by omega) ((hall 0 (by omega)).2 rfl).1 ((hall 0 (by omega)).2 rfl).2 (fun j h => (hall j (by omega)).1) | (by_cases z : s.size ≤ 32; (rw [decide_eq_true (by omega)]; exact nameF_t (by omega) (by omega) ((hall 0 (by omega)).2 rfl).1 ((hall 0 (by omega)).2 rfl).2 (fun j h => (hall j (by omega)).1)); (rw [decide_eq_false (by omega)]; exact nameF_f (by omega))), rfl⟩
              ·
                have k34 := bp h34
                refine AW.skip ?_
                refine AW.region ?_
                refine st V.move ?_
                refine st (V.add64 (by omega)) ?_
                refine st V.assign ?_
                refine sn ?_
                repeat with_reducible refine inb_normal ?_
                refine thn_normal ?_
                first
                  | contradiction
                  | (refine rnd (n - 1) _ (by omega) (List.Sublist.refl _) ⟨i + 1, by simp, rfl, by omega, fun j hj => ?_⟩
                     rcases Nat.lt_or_ge j i with hji | hji
                     · exact hall j hji
                     · obtain rfl : j = i := by omega
                       exact ⟨by unfold letB; omega, fun e => by omega⟩)
        ·
          have k21 := bp h21
          refine off rfl h21 ?_
          refine off rfl h21 ?_
          refine offU rfl ?_
          refine offU rfl ?_
          refine off rfl h21 ?_
          refine off rfl h21 ?_
          refine offU rfl ?_
          refine offU rfl ?_
          refine offU rfl ?_
          refine offU rfl ?_
          refine offU rfl ?_
          refine offU rfl ?_
          refine off rfl h21 ?_
          refine off rfl h21 ?_
          refine offU rfl ?_
          refine offU rfl ?_
          refine off rfl h21 ?_
          refine off rfl h21 ?_
          refine on rfl h20 ?_
          refine st (V.pT h21) ?_
          refine st (V.pT h20) ?_
          refine sn ?_
          refine cond (fun _ => ?_) (fun h => by cases h)
          refine AW.seq ?_
          refine AW.region ?_
          refine st V.assign ?_
          refine sn ?_
          refine AW.ret ?_
          repeat with_reducible first | refine thn_ret ?_ | refine inb_ret ?_
          refine fin (Res.i1 rfl) ?_
          exact ⟨_, (by repeat first | exact List.Sublist.refl _ | apply List.Sublist.cons), by first | contradiction | exact nameF_0 i (by omega) (by omega) | exact nameF_i i (by omega) (by unfold letB; omega) | exact nameF_f (by omega) | exact nameF_t (by omega) (by omega) ((hall 0 (by omega)).2 rfl).1 ((hall 0 (by omega)).2 rfl).2 (fun j h => (hall j (by omega)).1) | (by_cases z : s.size ≤ 32; (rw [decide_eq_true (by omega)]; exact nameF_t (by omega) (by omega) ((hall 0 (by omega)).2 rfl).1 ((hall 0 (by omega)).2 rfl).2 (fun j h => (hall j (by omega)).1)); (rw [decide_eq_false (by omega)]; exact nameF_f (by omega))), rfl⟩
      ·
        have k20 := bp h20
        refine off rfl h20 ?_
        refine off rfl h20 ?_
        refine offU rfl ?_
        refine offU rfl ?_
        refine offU rfl ?_
        refine offU rfl ?_
        refine offU rfl ?_
        refine offU rfl ?_
        refine offU rfl ?_
        refine offU rfl ?_
        refine offU rfl ?_
        refine offU rfl ?_
        refine offU rfl ?_
        refine offU rfl ?_
        refine offU rfl ?_
        refine offU rfl ?_
        refine offU rfl ?_
        refine offU rfl ?_
        refine offU rfl ?_
        refine offU rfl ?_
        refine offU rfl ?_
        refine off rfl h20 ?_
        refine st (V.pF h20) ?_
        refine sn ?_
        refine cond (fun h => by cases h) (fun _ => ?_)
        refine AW.skip ?_
        refine AW.region ?_
        refine st V.move ?_
        refine st (V.add64 (by omega)) ?_
        refine st V.assign ?_
        refine sn ?_
        repeat with_reducible refine inb_normal ?_
        refine thn_normal ?_
        first
          | contradiction
          | (refine rnd (n - 1) _ (by omega) (List.Sublist.refl _) ⟨i + 1, by simp, rfl, by omega, fun j hj => ?_⟩
             rcases Nat.lt_or_ge j i with hji | hji
             · exact hall j hji
             · obtain rfl : j = i := by omega
               exact ⟨by unfold letB; omega, fun e => by omega⟩)
  ·
    have k1 := bp h1
    refine AW.exit ?_
    repeat with_reducible refine thn_exit ?_
    refine inb_exit ?_
    refine AW.seq ?_
    refine AW.region ?_
    refine st V.move ?_
    refine st V.lenS ?_
    refine st V.geq ?_
    refine st V.move ?_
    refine onoff false rfl rfl (fun h37 => ?_) (fun h37 => ?_)
    ·
      have k37 := bp h37
      refine st V.move ?_
      refine on rfl h37 ?_
      refine st V.lenS ?_
      refine on rfl h37 ?_
      refine st V.leq ?_
      refine st (V.pT h37) ?_
      refine st V.assign ?_
      refine sn ?_
      refine AW.ret ?_
      repeat with_reducible first | refine thn_ret ?_ | refine inb_ret ?_
      refine fin (Res.i1 rfl) ?_
      exact ⟨_, (by repeat first | exact List.Sublist.refl _ | apply List.Sublist.cons), by first | contradiction | exact nameF_0 i (by omega) (by omega) | exact nameF_i i (by omega) (by unfold letB; omega) | exact nameF_f (by omega) | exact nameF_t (by omega) (by omega) ((hall 0 (by omega)).2 rfl).1 ((hall 0 (by omega)).2 rfl).2 (fun j h => (hall j (by omega)).1) | (by_cases z : s.size ≤ 32; (rw [decide_eq_true (by omega)]; exact nameF_t (by omega) (by omega) ((hall 0 (by omega)).2 rfl).1 ((hall 0 (by omega)).2 rfl).2 (fun j h => (hall j (by omega)).1)); (rw [decide_eq_false (by omega)]; exact nameF_f (by omega))), rfl⟩
    ·
      have k37 := bp h37
      refine off rfl h37 ?_
      refine off rfl h37 ?_
      refine st (V.pF h37) ?_
      refine st V.assign ?_
      refine sn ?_
      refine AW.ret ?_
      repeat with_reducible first | refine thn_ret ?_ | refine inb_ret ?_
      refine fin (Res.i1 rfl) ?_
      exact ⟨_, (by repeat first | exact List.Sublist.refl _ | apply List.Sublist.cons), by first | contradiction | exact nameF_0 i (by omega) (by omega) | exact nameF_i i (by omega) (by unfold letB; omega) | exact nameF_f (by omega) | exact nameF_t (by omega) (by omega) ((hall 0 (by omega)).2 rfl).1 ((hall 0 (by omega)).2 rfl).2 (fun j h => (hall j (by omega)).1) | (by_cases z : s.size ≤ 32; (rw [decide_eq_true (by omega)]; exact nameF_t (by omega) (by omega) ((hall 0 (by omega)).2 rfl).1 ((hall 0 (by omega)).2 rfl).2 (fun j h => (hall j (by omega)).1)); (rw [decide_eq_false (by omega)]; exact nameF_f (by omega))), rfl⟩
end Go.Proofs.YtieaiheejhmbfaaGreatDoor.ML
