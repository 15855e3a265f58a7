/- Walks of functions of the program, in the abstract layer. No conditions. -/
import Derived.Test.YtieaiheejhmbfaaGreatDoorPk16
namespace Go.Proofs.YtieaiheejhmbfaaGreatDoor.ML
open Go.RowKit
set_option linter.unusedVariables false
set_option linter.unusedSimpArgs false
set_option maxHeartbeats 1600000 in
set_option synthInstance.maxHeartbeats 400000 in
set_option synthInstance.maxSize 100000 in
set_option maxRecDepth 100000 in
theorem look_c (M : Mem) (H : Heap) (Ad : Option Addr) (cd : Nat) (d : List DT) (hd : RdS 2 (RdD M) Ad cd d) (b3 : Nat) (q : Mb M b3 [.slice Ad d.length cd]) (s : ByteArray) :
    AC Tryz.prog 46 [.string s, .pointer (some ⟨b3, 0, none⟩)] M H fun v _ H' => v = .tuple #[.int .i64 (conF s d 1).1, .int .i64 (conF s d 1).2.1, .bool (conF s d 1).2.2] ∧ H' = H := by
  refine AC.of (n := 10) Tryz.func46 rfl rfl ?_
  dsimp only [List.replicate, List.cons_append, List.nil_append]
  refine AW.seq ?_
  refine AW.region ?_
  refine st V.assign ?_
  refine st V.assign ?_
  refine st V.assign ?_
  refine sn ?_
  refine AW.seq ?_
  refine AW.region ?_
  first | refine st V.ld ?_ | refine sq V.lo ?_
  refine st V.move ?_
  refine se (S.call ?_)
  refine (con_c _ _ Ad cd d hd.upD s).use ?_
  rintro v N G iz ⟨rfl, hG⟩
  obtain rfl := hG.symm
  refine st V.ext ?_
  refine st V.ext ?_
  refine st V.ext ?_
  refine st V.assign ?_
  refine st V.assign ?_
  refine st V.assign ?_
  refine sn ?_
  refine AW.ret ?_
  repeat with_reducible first | refine thn_ret ?_ | refine inb_ret ?_
  refine fin (Res.i3 rfl) ?_
  exact ⟨_, (by repeat first | exact List.Sublist.refl _ | apply List.Sublist.cons), rfl, rfl⟩
set_option maxHeartbeats 1600000 in
set_option synthInstance.maxHeartbeats 400000 in
set_option synthInstance.maxSize 100000 in
set_option maxRecDepth 100000 in
theorem spaces_c (M : Mem) (H : Heap) (b : Nat) (s : ByteArray) (hs : s.size ≤ 1000000) (fv : Value) (a : Nat) (ha : a ≤ s.size) :
    AC Tryz.prog 78 [.pointer (some ⟨b, 0, none⟩)] M (.blk b (.cells #[.string s, .int .i64 (a : Nat), fv] 95 (0, 0)) :: H) fun r _ H' => r = .int .u8 (nxB s (skO spP s a)) ∧ H' = .blk b (.cells #[.string s, .int .i64 (skO spP s a : Nat), fv] 95 (0, 0)) :: H := by
  refine AC.of (n := 50) Tryz.func78 rfl rfl ?_
  dsimp only [List.replicate, List.cons_append, List.nil_append]
  refine AW.seq ?_
  refine AW.region ?_
  refine st V.assign ?_
  refine sn ?_
  refine AW.seq ?_
  refine AW.block ?_
  refine AW.loopL [] (3 :: 4 :: 5 :: 6 :: 7 :: 8 :: 9 :: 10 :: 11 :: 12 :: 13 :: 14 :: 15 :: 16 :: 17 :: 18 :: 19 :: 20 :: 21 :: 22 :: 23 :: 24 :: 25 :: 26 :: 27 :: 28 :: 29 :: 30 :: 31 :: []) (fun m vs M' H' => ∃ a1 : Nat, vs = [] ∧ H' = .blk b (.cells #[.string s, .int .i64 (a1 : Nat), fv] 95 (0, 0)) :: H ∧ a1 + m = s.size ∧ skO spP s a = skO spP s a1) (s.size - a) (⟨a, rfl, rfl, by omega, rfl⟩) ?_
  intro m Ml Hl iL  hI u3 u4 u5 u6 u7 u8 u9 u10 u11 u12 u13 u14 u15 u16 u17 u18 u19 u20 u21 u22 u23 u24 u25 u26 u27 u28 u29 u30 u31
  obtain ⟨a1, hv, hH, hm, hw⟩ := hI
  subst hH
  refine sa ?_
  refine AW.seq ?_
  refine AW.seq ?_
  refine AW.regionD mx false [0, 1, 2, 3, 4, 5, 6, 7, 8, 9, 10, 11, 12, 13, 14, 15, 16, 17, 18, 19, 20, 21] [[], [0], [0, 1], [0, 1, 2], [], [4], [4, 5], [4, 5, 6], [4, 5, 6, 7], [0, 1, 2, 3, 4, 5, 6, 7, 8], [0, 1, 2, 3, 4, 5, 6, 7, 8, 9], [0, 1, 2, 3, 4, 5, 6, 7, 8, 9, 10], [0, 1, 2, 3, 4, 5, 6, 7, 8, 9, 10, 11], [0, 1, 2, 3, 4, 5, 6, 7, 8, 9, 10, 11, 12], [0, 1, 2, 3, 4, 5, 6, 7, 8, 9, 10, 11, 12, 13], [0, 1, 2, 3, 4, 5, 6, 7, 8, 9, 10], [0, 1, 2, 3, 4, 5, 6, 7, 8, 9, 10, 15], [0, 1, 2, 3, 4, 5, 6, 7, 8, 9, 10, 15, 16], [0, 1, 2, 3, 4, 5, 6, 7, 8, 9, 10, 15, 16, 17], [0, 1, 2, 3, 4, 5, 6, 7, 8, 9, 10, 11, 12, 13, 14, 15, 16, 17, 18], [0, 1, 2, 3, 4, 5, 6, 7, 8, 9, 10, 11, 12, 13, 14, 15, 16, 17, 18, 19], [0, 1, 2, 3, 4, 5, 6, 7, 8, 9, 10, 11, 12, 13, 14, 15, 16, 17, 18, 19, 20]] (by kernel_rfl) ?_
  refine D.p rfl rfl V.move ?_
  refine D.p rfl rfl (by first | exact V.nc | exact V.ncF) ?_
  refine D.p rfl rfl V.faz ?_
  first | refine D.p rfl rfl V.ld ?_ | refine D.q rfl rfl V.lo ?_
  refine D.p rfl rfl V.move ?_
  refine D.p rfl rfl (by first | exact V.nc | exact V.ncF) ?_
  refine D.p rfl rfl V.fa0 ?_
  first | refine D.p rfl rfl V.ld ?_ | refine D.q rfl rfl V.lo ?_
  refine D.p rfl rfl V.lenS ?_
  refine D.p rfl rfl V.lss ?_
  refine D.p rfl rfl V.move ?_
  refine D.onoff true false rfl 13 (fun h1 => ?_) (fun h1 => ?_)
  ·
    have k1 := bp h1
    refine D.pOn rfl rfl h1 rfl V.move ?_
    refine D.pOn rfl rfl h1 rfl (by first | exact V.nc | exact V.ncF) ?_
    refine D.pOn rfl rfl h1 rfl V.fa0 ?_
    first | refine D.pOn rfl rfl h1 rfl V.ld ?_ | refine D.qOn rfl rfl h1 rfl V.lo ?_
    refine D.pOn rfl rfl h1 rfl V.move ?_
    refine D.pOn rfl rfl h1 rfl (by first | exact V.nc | exact V.ncF) ?_
    refine D.pOn rfl rfl h1 rfl V.faz ?_
    first | refine D.pOn rfl rfl h1 rfl V.ld ?_ | refine D.qOn rfl rfl h1 rfl V.lo ?_
    refine D.pOn rfl rfl h1 rfl (V.idx (by omega) (by omega)) ?_
    refine D.pOn rfl rfl h1 rfl V.eql ?_
    refine D.p rfl rfl (V.pT h1) ?_
    refine D.nl ?_
    refine cond (fun h2 => ?_) (fun h2 => ?_)
    ·
      have k2 := bp h2
      refine AW.skip ?_
      refine AW.block ?_
      refine AW.region ?_
      refine st V.move ?_
      refine st (by first | exact V.nc | exact V.ncF) ?_
      refine st V.faz ?_
      first | refine st V.ld ?_ | refine sq V.lo ?_
      refine st (V.add64 (by omega)) ?_
      refine st (by first | exact V.nc | exact V.ncF) ?_
      refine st V.faz ?_
      refine se (S.store ?_)
      refine sn ?_
      repeat with_reducible refine inb_normal ?_
      refine thn_normal ?_
      refine rnd (m - 1) _ (by omega) (List.Sublist.refl _) ⟨a1 + 1, rfl, by simp, by omega, ?_⟩
      rw [hw, skO_eq, if_pos ⟨by omega, by unfold spP; exact decide_eq_true (by omega)⟩]
    ·
      have k2 := bp h2
      refine AW.exit ?_
      repeat with_reducible refine thn_exit ?_
      refine inb_exit ?_
      refine AW.seq ?_
      refine AW.seq ?_
      have he : skO spP s a = a1 := by rw [hw, skO_eq, if_neg (fun hh => by have := of_decide_eq_true hh.2; omega)]
      rw [he]
      refine AW.regionD mx false [0, 1, 2, 3, 4, 5, 6, 7, 8, 9] [[], [0], [0, 1], [0, 1, 2], [], [4], [4, 5], [4, 5, 6], [4, 5, 6, 7], [0, 1, 2, 3, 4, 5, 6, 7, 8]] (by kernel_rfl) ?_
      refine D.p rfl rfl V.move ?_
      refine D.p rfl rfl (by first | exact V.nc | exact V.ncF) ?_
      refine D.p rfl rfl V.faz ?_
      first | refine D.p rfl rfl V.ld ?_ | refine D.q rfl rfl V.lo ?_
      refine D.p rfl rfl V.move ?_
      refine D.p rfl rfl (by first | exact V.nc | exact V.ncF) ?_
      refine D.p rfl rfl V.fa0 ?_
      first | refine D.p rfl rfl V.ld ?_ | refine D.q rfl rfl V.lo ?_
      refine D.p rfl rfl V.lenS ?_
      refine D.p rfl rfl V.eql ?_
      refine D.nl ?_
      refine cond (fun h3 => ?_) (fun h3 => ?_)
      ·
        have k3 := bp h3
        refine AW.seq ?_
        refine AW.region ?_
        refine st V.assign ?_
        refine sn ?_
        refine AW.ret ?_
        repeat with_reducible first | refine thn_ret ?_ | refine inb_ret ?_
        refine fin (Res.i1 rfl) ?_
        exact ⟨_, (by repeat first | exact List.Sublist.refl _ | apply List.Sublist.cons), by first | (exfalso; omega) | rw [nxB, if_neg (by omega)] | rw [nxB, if_pos (by omega)], rfl⟩
      ·
        have k3 := bp h3
        refine AW.skip ?_
        refine AW.seq ?_
        refine AW.regionD mx false [0, 1, 2, 3, 4, 5, 6, 7, 8, 9] [[], [0], [0, 1], [0, 1, 2], [], [4], [4, 5], [4, 5, 6], [0, 1, 2, 3, 4, 5, 6, 7], [0, 1, 2, 3, 4, 5, 6, 7, 8]] (by kernel_rfl) ?_
        refine D.p rfl rfl V.move ?_
        refine D.p rfl rfl (by first | exact V.nc | exact V.ncF) ?_
        refine D.p rfl rfl V.fa0 ?_
        first | refine D.p rfl rfl V.ld ?_ | refine D.q rfl rfl V.lo ?_
        refine D.p rfl rfl V.move ?_
        refine D.p rfl rfl (by first | exact V.nc | exact V.ncF) ?_
        refine D.p rfl rfl V.faz ?_
        first | refine D.p rfl rfl V.ld ?_ | refine D.q rfl rfl V.lo ?_
        refine D.p rfl rfl (V.idx (by omega) (by omega)) ?_
        refine D.p rfl rfl V.assign ?_
        refine D.nl ?_
        refine AW.ret ?_
        repeat with_reducible first | refine thn_ret ?_ | refine inb_ret ?_
        refine fin (Res.i1 rfl) ?_
        exact ⟨_, (by repeat first | exact List.Sublist.refl _ | apply List.Sublist.cons), by first | (exfalso; omega) | rw [nxB, if_neg (by omega)] | rw [nxB, if_pos (by omega)], rfl⟩
  ·
    have k1 := bp h1
    refine D.off rfl rfl (by rw [h1]; decide) ?_
    refine D.off rfl rfl (by rw [h1]; decide) ?_
    refine D.off rfl rfl (by rw [h1]; decide) ?_
    refine D.off rfl rfl (by rw [h1]; decide) ?_
    refine D.off rfl rfl (by rw [h1]; decide) ?_
    refine D.off rfl rfl (by rw [h1]; decide) ?_
    refine D.off rfl rfl (by rw [h1]; decide) ?_
    refine D.off rfl rfl (by rw [h1]; decide) ?_
    refine D.off rfl rfl (by rw [h1]; decide) ?_
    refine D.off rfl rfl (by rw [h1]; decide) ?_
    refine D.p rfl rfl (V.pF h1) ?_
    refine D.nl ?_
    refine cond (fun h => by cases h) (fun _ => ?_)
    refine AW.exit ?_
    repeat with_reducible refine thn_exit ?_
    refine inb_exit ?_
    refine AW.seq ?_
    refine AW.seq ?_
    have he : skO spP s a = a1 := by rw [hw, skO_eq, if_neg (fun hh => by have := of_decide_eq_true hh.2; omega)]
    rw [he]
    refine AW.regionD mx false [0, 1, 2, 3, 4, 5, 6, 7, 8, 9] [[], [0], [0, 1], [0, 1, 2], [], [4], [4, 5], [4, 5, 6], [4, 5, 6, 7], [0, 1, 2, 3, 4, 5, 6, 7, 8]] (by kernel_rfl) ?_
    refine D.p rfl rfl V.move ?_
    refine D.p rfl rfl (by first | exact V.nc | exact V.ncF) ?_
    refine D.p rfl rfl V.faz ?_
    first | refine D.p rfl rfl V.ld ?_ | refine D.q rfl rfl V.lo ?_
    refine D.p rfl rfl V.move ?_
    refine D.p rfl rfl (by first | exact V.nc | exact V.ncF) ?_
    refine D.p rfl rfl V.fa0 ?_
    first | refine D.p rfl rfl V.ld ?_ | refine D.q rfl rfl V.lo ?_
    refine D.p rfl rfl V.lenS ?_
    refine D.p rfl rfl V.eql ?_
    refine D.nl ?_
    refine cond (fun h5 => ?_) (fun h5 => ?_)
    ·
      have k5 := bp h5
      refine AW.seq ?_
      refine AW.region ?_
      refine st V.assign ?_
      refine sn ?_
      refine AW.ret ?_
      repeat with_reducible first | refine thn_ret ?_ | refine inb_ret ?_
      refine fin (Res.i1 rfl) ?_
      exact ⟨_, (by repeat first | exact List.Sublist.refl _ | apply List.Sublist.cons), by first | (exfalso; omega) | rw [nxB, if_neg (by omega)] | rw [nxB, if_pos (by omega)], rfl⟩
    ·
      have k5 := bp h5
      refine AW.skip ?_
      refine AW.seq ?_
      refine AW.regionD mx false [0, 1, 2, 3, 4, 5, 6, 7, 8, 9] [[], [0], [0, 1], [0, 1, 2], [], [4], [4, 5], [4, 5, 6], [0, 1, 2, 3, 4, 5, 6, 7], [0, 1, 2, 3, 4, 5, 6, 7, 8]] (by kernel_rfl) ?_
      refine D.p rfl rfl V.move ?_
      refine D.p rfl rfl (by first | exact V.nc | exact V.ncF) ?_
      refine D.p rfl rfl V.fa0 ?_
      first | refine D.p rfl rfl V.ld ?_ | refine D.q rfl rfl V.lo ?_
      refine D.p rfl rfl V.move ?_
      refine D.p rfl rfl (by first | exact V.nc | exact V.ncF) ?_
      refine D.p rfl rfl V.faz ?_
      first | refine D.p rfl rfl V.ld ?_ | refine D.q rfl rfl V.lo ?_
      refine D.p rfl rfl (V.idx (by omega) (by omega)) ?_
      refine D.p rfl rfl V.assign ?_
      refine D.nl ?_
      refine AW.ret ?_
      repeat with_reducible first | refine thn_ret ?_ | refine inb_ret ?_
      refine fin (Res.i1 rfl) ?_
      exact ⟨_, (by repeat first | exact List.Sublist.refl _ | apply List.Sublist.cons), by first | (exfalso; omega) | rw [nxB, if_neg (by omega)] | rw [nxB, if_pos (by omega)], rfl⟩
set_option maxHeartbeats 1600000 in
set_option synthInstance.maxHeartbeats 400000 in
set_option synthInstance.maxSize 100000 in
set_option maxRecDepth 100000 in
theorem letter_c (M : Mem) (H : Heap) (c : Int) :
    AC Tryz.prog 102 [.int .u8 c] M H fun r _ H' => r = .bool (ltP c) ∧ H' = H := by
  refine AC.of (n := 28) Tryz.func102 rfl rfl ?_
  dsimp only [List.replicate, List.cons_append, List.nil_append]
  refine AW.seq ?_
  refine AW.region ?_
  refine st V.assign ?_
  refine sn ?_
  refine AW.seq ?_
  refine AW.region ?_
  refine st V.move ?_
  refine st V.geq ?_
  refine st V.move ?_
  refine onoff false rfl rfl (fun h1 => ?_) (fun h1 => ?_)
  ·
    have k1 := bp h1
    refine st V.move ?_
    refine on rfl h1 ?_
    refine st V.leq ?_
    refine st (V.pT h1) ?_
    refine st V.move ?_
    refine onoff true rfl rfl (fun h2 => ?_) (fun h2 => ?_)
    ·
      have k2 := bp h2
      refine st V.move ?_
      refine on rfl h2 ?_
      refine st V.geq ?_
      refine on rfl h2 ?_
      refine st V.move ?_
      refine onoff false rfl rfl (fun h3 => ?_) (fun h3 => ?_)
      ·
        have k3 := bp h3
        refine st V.move ?_
        refine on rfl h3 ?_
        refine st V.leq ?_
        refine on rfl h2 ?_
        refine st (V.pT h3) ?_
        refine st (V.pF h2) ?_
        refine st V.move ?_
        refine onoff true rfl rfl (fun h4 => ?_) (fun h4 => ?_)
        ·
          have k4 := bp h4
          refine st V.move ?_
          refine on rfl h4 ?_
          refine st V.geq ?_
          refine on rfl h4 ?_
          refine st V.move ?_
          refine onoff false rfl rfl (fun h5 => ?_) (fun h5 => ?_)
          ·
            have k5 := bp h5
            refine st V.move ?_
            refine on rfl h5 ?_
            refine st V.leq ?_
            refine on rfl h4 ?_
            refine st (V.pT h5) ?_
            refine st (V.pF h4) ?_
            refine st V.move ?_
            refine onoff true rfl rfl (fun h6 => ?_) (fun h6 => ?_)
            ·
              have k6 := bp h6
              refine st V.move ?_
              refine on rfl h6 ?_
              refine st V.eql ?_
              refine st (V.pF h6) ?_
              refine st V.assign ?_
              refine sn ?_
              refine AW.ret ?_
              repeat with_reducible first | refine thn_ret ?_ | refine inb_ret ?_
              refine fin (Res.i1 rfl) ?_
              exact ⟨_, (by repeat first | exact List.Sublist.refl _ | apply List.Sublist.cons), by unfold ltP; congr 1; first | (symm; exact decide_eq_true (by omega)) | (symm; exact decide_eq_false (by omega)) | (rw [decide_eq_decide]; omega), rfl⟩
            ·
              have k6 := bp h6
              refine off rfl h6 ?_
              refine st (V.pT h6) ?_
              refine st V.assign ?_
              refine sn ?_
              refine AW.ret ?_
              repeat with_reducible first | refine thn_ret ?_ | refine inb_ret ?_
              refine fin (Res.i1 rfl) ?_
              exact ⟨_, (by repeat first | exact List.Sublist.refl _ | apply List.Sublist.cons), by unfold ltP; congr 1; first | (symm; exact decide_eq_true (by omega)) | (symm; exact decide_eq_false (by omega)) | (rw [decide_eq_decide]; omega), rfl⟩
          ·
            have k5 := bp h5
            refine off rfl h5 ?_
            refine on rfl h4 ?_
            refine st (V.pF h5) ?_
            refine st (V.pF h4) ?_
            refine st V.move ?_
            refine on rfl rfl ?_
            refine st V.move ?_
            refine on rfl rfl ?_
            refine st V.eql ?_
            refine st (V.pF rfl) ?_
            refine st V.assign ?_
            refine sn ?_
            refine AW.ret ?_
            repeat with_reducible first | refine thn_ret ?_ | refine inb_ret ?_
            refine fin (Res.i1 rfl) ?_
            exact ⟨_, (by repeat first | exact List.Sublist.refl _ | apply List.Sublist.cons), by unfold ltP; congr 1; first | (symm; exact decide_eq_true (by omega)) | (symm; exact decide_eq_false (by omega)) | (rw [decide_eq_decide]; omega), rfl⟩
        ·
          have k4 := bp h4
          refine off rfl h4 ?_
          refine off rfl h4 ?_
          refine offU rfl ?_
          refine offU rfl ?_
          refine off rfl h4 ?_
          refine st (V.pT h4) ?_
          refine st V.move ?_
          refine off rfl rfl ?_
          refine off rfl rfl ?_
          refine st (V.pT rfl) ?_
          refine st V.assign ?_
          refine sn ?_
          refine AW.ret ?_
          repeat with_reducible first | refine thn_ret ?_ | refine inb_ret ?_
          refine fin (Res.i1 rfl) ?_
          exact ⟨_, (by repeat first | exact List.Sublist.refl _ | apply List.Sublist.cons), by unfold ltP; congr 1; first | (symm; exact decide_eq_true (by omega)) | (symm; exact decide_eq_false (by omega)) | (rw [decide_eq_decide]; omega), rfl⟩
      ·
        have k3 := bp h3
        refine off rfl h3 ?_
        refine on rfl h2 ?_
        refine st (V.pF h3) ?_
        refine st (V.pF h2) ?_
        refine st V.move ?_
        refine on rfl rfl ?_
        refine st V.move ?_
        refine on rfl rfl ?_
        refine st V.geq ?_
        refine on rfl rfl ?_
        refine st V.move ?_
        refine onoff false rfl rfl (fun h7 => ?_) (fun h7 => ?_)
        ·
          have k7 := bp h7
          refine st V.move ?_
          refine on rfl h7 ?_
          refine st V.leq ?_
          refine on rfl rfl ?_
          refine st (V.pT h7) ?_
          refine st (V.pF rfl) ?_
          refine st V.move ?_
          refine onoff true rfl rfl (fun h8 => ?_) (fun h8 => ?_)
          ·
            have k8 := bp h8
            refine st V.move ?_
            refine on rfl h8 ?_
            refine st V.eql ?_
            refine st (V.pF h8) ?_
            refine st V.assign ?_
            refine sn ?_
            refine AW.ret ?_
            repeat with_reducible first | refine thn_ret ?_ | refine inb_ret ?_
            refine fin (Res.i1 rfl) ?_
            exact ⟨_, (by repeat first | exact List.Sublist.refl _ | apply List.Sublist.cons), by unfold ltP; congr 1; first | (symm; exact decide_eq_true (by omega)) | (symm; exact decide_eq_false (by omega)) | (rw [decide_eq_decide]; omega), rfl⟩
          ·
            have k8 := bp h8
            refine off rfl h8 ?_
            refine st (V.pT h8) ?_
            refine st V.assign ?_
            refine sn ?_
            refine AW.ret ?_
            repeat with_reducible first | refine thn_ret ?_ | refine inb_ret ?_
            refine fin (Res.i1 rfl) ?_
            exact ⟨_, (by repeat first | exact List.Sublist.refl _ | apply List.Sublist.cons), by unfold ltP; congr 1; first | (symm; exact decide_eq_true (by omega)) | (symm; exact decide_eq_false (by omega)) | (rw [decide_eq_decide]; omega), rfl⟩
        ·
          have k7 := bp h7
          refine off rfl h7 ?_
          refine on rfl rfl ?_
          refine st (V.pF h7) ?_
          refine st (V.pF rfl) ?_
          refine st V.move ?_
          refine on rfl rfl ?_
          refine st V.move ?_
          refine on rfl rfl ?_
          refine st V.eql ?_
          refine st (V.pF rfl) ?_
          refine st V.assign ?_
          refine sn ?_
          refine AW.ret ?_
          repeat with_reducible first | refine thn_ret ?_ | refine inb_ret ?_
          refine fin (Res.i1 rfl) ?_
          exact ⟨_, (by repeat first | exact List.Sublist.refl _ | apply List.Sublist.cons), by unfold ltP; congr 1; first | (symm; exact decide_eq_true (by omega)) | (symm; exact decide_eq_false (by omega)) | (rw [decide_eq_decide]; omega), rfl⟩
    ·
      have k2 := bp h2
      refine off rfl h2 ?_
      refine off rfl h2 ?_
      refine offU rfl ?_
      refine offU rfl ?_
      refine off rfl h2 ?_
      refine st (V.pT h2) ?_
      refine st V.move ?_
      refine off rfl rfl ?_
      refine off rfl rfl ?_
      refine off rfl rfl ?_
      refine offU rfl ?_
      refine offU rfl ?_
      refine off rfl rfl ?_
      refine st (V.pT rfl) ?_
      refine st V.move ?_
      refine off rfl rfl ?_
      refine off rfl rfl ?_
      refine st (V.pT rfl) ?_
      refine st V.assign ?_
      refine sn ?_
      refine AW.ret ?_
      repeat with_reducible first | refine thn_ret ?_ | refine inb_ret ?_
      refine fin (Res.i1 rfl) ?_
      exact ⟨_, (by repeat first | exact List.Sublist.refl _ | apply List.Sublist.cons), by unfold ltP; congr 1; first | (symm; exact decide_eq_true (by omega)) | (symm; exact decide_eq_false (by omega)) | (rw [decide_eq_decide]; omega), rfl⟩
  ·
    have k1 := bp h1
    refine off rfl h1 ?_
    refine st (V.pF h1) ?_
    refine st V.move ?_
    refine on rfl rfl ?_
    refine st V.move ?_
    refine on rfl rfl ?_
    refine st V.geq ?_
    refine on rfl rfl ?_
    refine st V.move ?_
    refine onoff false rfl rfl (fun h9 => ?_) (fun h9 => ?_)
    ·
      have k9 := bp h9
      refine st V.move ?_
      refine on rfl h9 ?_
      refine st V.leq ?_
      refine on rfl rfl ?_
      refine st (V.pT h9) ?_
      refine st (V.pF rfl) ?_
      refine st V.move ?_
      refine onoff true rfl rfl (fun h10 => ?_) (fun h10 => ?_)
      ·
        have k10 := bp h10
        refine st V.move ?_
        refine on rfl h10 ?_
        refine st V.geq ?_
        refine on rfl h10 ?_
        refine st V.move ?_
        refine onoff false rfl rfl (fun h11 => ?_) (fun h11 => ?_)
        ·
          have k11 := bp h11
          refine st V.move ?_
          refine on rfl h11 ?_
          refine st V.leq ?_
          refine on rfl h10 ?_
          refine st (V.pT h11) ?_
          refine st (V.pF h10) ?_
          refine st V.move ?_
          refine onoff true rfl rfl (fun h12 => ?_) (fun h12 => ?_)
          ·
            have k12 := bp h12
            refine st V.move ?_
            refine on rfl h12 ?_
            refine st V.eql ?_
            refine st (V.pF h12) ?_
            refine st V.assign ?_
            refine sn ?_
            refine AW.ret ?_
            repeat with_reducible first | refine thn_ret ?_ | refine inb_ret ?_
            refine fin (Res.i1 rfl) ?_
            exact ⟨_, (by repeat first | exact List.Sublist.refl _ | apply List.Sublist.cons), by unfold ltP; congr 1; first | (symm; exact decide_eq_true (by omega)) | (symm; exact decide_eq_false (by omega)) | (rw [decide_eq_decide]; omega), rfl⟩
          ·
            have k12 := bp h12
            refine off rfl h12 ?_
            refine st (V.pT h12) ?_
            refine st V.assign ?_
            refine sn ?_
            refine AW.ret ?_
            repeat with_reducible first | refine thn_ret ?_ | refine inb_ret ?_
            refine fin (Res.i1 rfl) ?_
            exact ⟨_, (by repeat first | exact List.Sublist.refl _ | apply List.Sublist.cons), by unfold ltP; congr 1; first | (symm; exact decide_eq_true (by omega)) | (symm; exact decide_eq_false (by omega)) | (rw [decide_eq_decide]; omega), rfl⟩
        ·
          have k11 := bp h11
          refine off rfl h11 ?_
          refine on rfl h10 ?_
          refine st (V.pF h11) ?_
          refine st (V.pF h10) ?_
          refine st V.move ?_
          refine on rfl rfl ?_
          refine st V.move ?_
          refine on rfl rfl ?_
          refine st V.eql ?_
          refine st (V.pF rfl) ?_
          refine st V.assign ?_
          refine sn ?_
          refine AW.ret ?_
          repeat with_reducible first | refine thn_ret ?_ | refine inb_ret ?_
          refine fin (Res.i1 rfl) ?_
          exact ⟨_, (by repeat first | exact List.Sublist.refl _ | apply List.Sublist.cons), by unfold ltP; congr 1; first | (symm; exact decide_eq_true (by omega)) | (symm; exact decide_eq_false (by omega)) | (rw [decide_eq_decide]; omega), rfl⟩
      ·
        have k10 := bp h10
        refine off rfl h10 ?_
        refine off rfl h10 ?_
        refine offU rfl ?_
        refine offU rfl ?_
        refine off rfl h10 ?_
        refine st (V.pT h10) ?_
        refine st V.move ?_
        refine off rfl rfl ?_
        refine off rfl rfl ?_
        refine st (V.pT rfl) ?_
        refine st V.assign ?_
        refine sn ?_
        refine AW.ret ?_
        repeat with_reducible first | refine thn_ret ?_ | refine inb_ret ?_
        refine fin (Res.i1 rfl) ?_
        exact ⟨_, (by repeat first | exact List.Sublist.refl _ | apply List.Sublist.cons), by unfold ltP; congr 1; first | (symm; exact decide_eq_true (by omega)) | (symm; exact decide_eq_false (by omega)) | (rw [decide_eq_decide]; omega), rfl⟩
    ·
      have k9 := bp h9
      refine off rfl h9 ?_
      refine on rfl rfl ?_
      refine st (V.pF h9) ?_
      refine st (V.pF rfl) ?_
      refine st V.move ?_
      refine on rfl rfl ?_
      refine st V.move ?_
      refine on rfl rfl ?_
      refine st V.geq ?_
      refine on rfl rfl ?_
      refine st V.move ?_
      refine onoff false rfl rfl (fun h13 => ?_) (fun h13 => ?_)
      ·
        have k13 := bp h13
        refine st V.move ?_
        refine on rfl h13 ?_
        refine st V.leq ?_
        refine on rfl rfl ?_
        refine st (V.pT h13) ?_
        refine st (V.pF rfl) ?_
        refine st V.move ?_
        refine onoff true rfl rfl (fun h14 => ?_) (fun h14 => ?_)
        ·
          have k14 := bp h14
          refine st V.move ?_
          refine on rfl h14 ?_
          refine st V.eql ?_
          refine st (V.pF h14) ?_
          refine st V.assign ?_
          refine sn ?_
          refine AW.ret ?_
          repeat with_reducible first | refine thn_ret ?_ | refine inb_ret ?_
          refine fin (Res.i1 rfl) ?_
          exact ⟨_, (by repeat first | exact List.Sublist.refl _ | apply List.Sublist.cons), by unfold ltP; congr 1; first | (symm; exact decide_eq_true (by omega)) | (symm; exact decide_eq_false (by omega)) | (rw [decide_eq_decide]; omega), rfl⟩
        ·
          have k14 := bp h14
          refine off rfl h14 ?_
          refine st (V.pT h14) ?_
          refine st V.assign ?_
          refine sn ?_
          refine AW.ret ?_
          repeat with_reducible first | refine thn_ret ?_ | refine inb_ret ?_
          refine fin (Res.i1 rfl) ?_
          exact ⟨_, (by repeat first | exact List.Sublist.refl _ | apply List.Sublist.cons), by unfold ltP; congr 1; first | (symm; exact decide_eq_true (by omega)) | (symm; exact decide_eq_false (by omega)) | (rw [decide_eq_decide]; omega), rfl⟩
      ·
        have k13 := bp h13
        refine off rfl h13 ?_
        refine on rfl rfl ?_
        refine st (V.pF h13) ?_
        refine st (V.pF rfl) ?_
        refine st V.move ?_
        refine on rfl rfl ?_
        refine st V.move ?_
        refine on rfl rfl ?_
        refine st V.eql ?_
        refine st (V.pF rfl) ?_
        refine st V.assign ?_
        refine sn ?_
        refine AW.ret ?_
        repeat with_reducible first | refine thn_ret ?_ | refine inb_ret ?_
        refine fin (Res.i1 rfl) ?_
        exact ⟨_, (by repeat first | exact List.Sublist.refl _ | apply List.Sublist.cons), by unfold ltP; congr 1; first | (symm; exact decide_eq_true (by omega)) | (symm; exact decide_eq_false (by omega)) | (rw [decide_eq_decide]; omega), rfl⟩
set_option maxHeartbeats 1600000 in
set_option synthInstance.maxHeartbeats 400000 in
set_option synthInstance.maxSize 100000 in
set_option maxRecDepth 100000 in
theorem word_c (M : Mem) (H : Heap) (hGM : GM M) (b : Nat) (s : ByteArray) (hs : s.size ≤ 1000000) (fv : Value) (a : Nat) (ha : a ≤ s.size) :
    AC Tryz.prog 79 [.pointer (some ⟨b, 0, none⟩)] M (.blk b (.cells #[.string s, .int .i64 (a : Nat), fv] 95 (0, 0)) :: H) fun r _ H' => (∃ nm nu ok, r = .tuple #[.agg #[.string nm, .int .i64 nu, .slice none 0 0], .bool ok] ∧ ok = (wordF s a).isSome ∧ ∀ t, wordF s a = some t → t = ⟨nm, nu, []⟩) ∧ H' = .blk b (.cells #[.string s, .int .i64 (wE s a : Nat), fv] 95 (0, 0)) :: H := by
  have hwe := wE_le s a ha
  refine AC.of (n := 153) Tryz.func79 rfl rfl ?_
  dsimp only [List.replicate, List.cons_append, List.nil_append]
  refine AW.seq ?_
  refine AW.region ?_
  refine se (S.alloc ?_); intro b2
  refine st V.assign ?_
  refine sn ?_
  refine AW.seq ?_
  refine AW.region ?_
  refine st V.move ?_
  refine st (by first | exact V.nc | exact V.ncF) ?_
  refine st V.faz ?_
  first | refine st V.ld ?_ | refine sq V.lo ?_
  refine st V.assign ?_
  refine sn ?_
  refine AW.cutL [] (13 :: 14 :: 15 :: 16 :: 17 :: 18 :: 19 :: 20 :: 21 :: 22 :: 23 :: 24 :: 25 :: 26 :: 27 :: 28 :: 29 :: 30 :: 31 :: 32 :: 33 :: 34 :: 35 :: 36 :: 37 :: 38 :: 39 :: 40 :: 41 :: []) (fun vs M' H' => ∃ a1 : Nat, vs = [] ∧ H' = .blk b2 (.cells #[.string ⟨#[]⟩, .int .i64 0, .slice none 0 0] 98 (0, 0)) :: .blk b (.cells #[.string s, .int .i64 (a1 : Nat), fv] 95 (0, 0)) :: H ∧ a ≤ a1 ∧ a1 ≤ s.size ∧ wE s a = skO ltP s a1) ?_ ?_
  ·
    refine AW.seq ?_
    refine AW.regionD mx false [0, 1, 2, 3, 4, 5, 6, 7, 8, 9, 10, 11, 12, 13, 14, 15, 16, 17, 18, 19, 20, 21] [[], [0], [0, 1], [0, 1, 2], [], [4], [4, 5], [4, 5, 6], [4, 5, 6, 7], [0, 1, 2, 3, 4, 5, 6, 7, 8], [0, 1, 2, 3, 4, 5, 6, 7, 8, 9], [0, 1, 2, 3, 4, 5, 6, 7, 8, 9, 10], [0, 1, 2, 3, 4, 5, 6, 7, 8, 9, 10, 11], [0, 1, 2, 3, 4, 5, 6, 7, 8, 9, 10, 11, 12], [0, 1, 2, 3, 4, 5, 6, 7, 8, 9, 10, 11, 12, 13], [0, 1, 2, 3, 4, 5, 6, 7, 8, 9, 10], [0, 1, 2, 3, 4, 5, 6, 7, 8, 9, 10, 15], [0, 1, 2, 3, 4, 5, 6, 7, 8, 9, 10, 15, 16], [0, 1, 2, 3, 4, 5, 6, 7, 8, 9, 10, 15, 16, 17], [0, 1, 2, 3, 4, 5, 6, 7, 8, 9, 10, 11, 12, 13, 14, 15, 16, 17, 18], [0, 1, 2, 3, 4, 5, 6, 7, 8, 9, 10, 11, 12, 13, 14, 15, 16, 17, 18, 19], [0, 1, 2, 3, 4, 5, 6, 7, 8, 9, 10, 11, 12, 13, 14, 15, 16, 17, 18, 19, 20]] (by kernel_rfl) ?_
    refine D.p rfl rfl V.move ?_
    refine D.p rfl rfl (by first | exact V.nc | exact V.ncF) ?_
    refine D.p rfl rfl V.faz ?_
    first | refine D.p rfl rfl V.ld ?_ | refine D.q rfl rfl V.lo ?_
    refine D.p rfl rfl V.move ?_
    refine D.p rfl rfl (by first | exact V.nc | exact V.ncF) ?_
    refine D.p rfl rfl V.fa0 ?_
    first | refine D.p rfl rfl V.ld ?_ | refine D.q rfl rfl V.lo ?_
    refine D.p rfl rfl V.lenS ?_
    refine D.p rfl rfl V.lss ?_
    refine D.p rfl rfl V.move ?_
    refine D.onoff true false rfl 23 (fun h1 => ?_) (fun h1 => ?_)
    ·
      have k1 := bp h1
      refine D.pOn rfl rfl h1 rfl V.move ?_
      refine D.pOn rfl rfl h1 rfl (by first | exact V.nc | exact V.ncF) ?_
      refine D.pOn rfl rfl h1 rfl V.fa0 ?_
      first | refine D.pOn rfl rfl h1 rfl V.ld ?_ | refine D.qOn rfl rfl h1 rfl V.lo ?_
      refine D.pOn rfl rfl h1 rfl V.move ?_
      refine D.pOn rfl rfl h1 rfl (by first | exact V.nc | exact V.ncF) ?_
      refine D.pOn rfl rfl h1 rfl V.faz ?_
      first | refine D.pOn rfl rfl h1 rfl V.ld ?_ | refine D.qOn rfl rfl h1 rfl V.lo ?_
      refine D.pOn rfl rfl h1 rfl (V.idx (by omega) (by omega)) ?_
      refine D.pOn rfl rfl h1 rfl V.eql ?_
      refine D.p rfl rfl (V.pT h1) ?_
      refine D.nl ?_
      refine cond (fun h2 => ?_) (fun h2 => ?_)
      ·
        have k2 := bp h2
        refine AW.region ?_
        refine st V.move ?_
        refine st (by first | exact V.nc | exact V.ncF) ?_
        refine st V.faz ?_
        first | refine st V.ld ?_ | refine sq V.lo ?_
        refine st (V.add64 (by omega)) ?_
        refine st (by first | exact V.nc | exact V.ncF) ?_
        refine st V.faz ?_
        refine se (S.store ?_)
        refine sn ?_
        repeat with_reducible refine inb_normal ?_
        refine thn_normal ?_
        first
          | exact met _ (List.Sublist.refl _) ⟨a + 1, rfl, by simp, by omega, by omega, by rw [wE, if_pos ⟨by omega, by omega⟩]⟩
          | exact met _ (List.Sublist.refl _) ⟨a, rfl, rfl, by omega, by omega, by rw [wE, if_neg (by omega)]⟩
      ·
        have k2 := bp h2
        refine AW.skip ?_
        repeat with_reducible refine inb_normal ?_
        refine thn_normal ?_
        first
          | exact met _ (List.Sublist.refl _) ⟨a + 1, rfl, by simp, by omega, by omega, by rw [wE, if_pos ⟨by omega, by omega⟩]⟩
          | exact met _ (List.Sublist.refl _) ⟨a, rfl, rfl, by omega, by omega, by rw [wE, if_neg (by omega)]⟩
    ·
      have k1 := bp h1
      refine D.off rfl rfl (by rw [h1]; decide) ?_
      refine D.off rfl rfl (by rw [h1]; decide) ?_
      refine D.off rfl rfl (by rw [h1]; decide) ?_
      refine D.off rfl rfl (by rw [h1]; decide) ?_
      refine D.off rfl rfl (by rw [h1]; decide) ?_
      refine D.off rfl rfl (by rw [h1]; decide) ?_
      refine D.off rfl rfl (by rw [h1]; decide) ?_
      refine D.off rfl rfl (by rw [h1]; decide) ?_
      refine D.off rfl rfl (by rw [h1]; decide) ?_
      refine D.off rfl rfl (by rw [h1]; decide) ?_
      refine D.p rfl rfl (V.pF h1) ?_
      refine D.nl ?_
      refine cond (fun h => by cases h) (fun _ => ?_)
      refine AW.skip ?_
      repeat with_reducible refine inb_normal ?_
      refine thn_normal ?_
      first
        | exact met _ (List.Sublist.refl _) ⟨a + 1, rfl, by simp, by omega, by omega, by rw [wE, if_pos ⟨by omega, by omega⟩]⟩
        | exact met _ (List.Sublist.refl _) ⟨a, rfl, rfl, by omega, by omega, by rw [wE, if_neg (by omega)]⟩
  ·
    intro Mc4 Hc4 iC4  hJ u13 u14 u15 u16 u17 u18 u19 u20 u21 u22 u23 u24 u25 u26 u27 u28 u29 u30 u31 u32 u33 u34 u35 u36 u37 u38 u39 u40 u41
    obtain ⟨p0, hv, hH, hp0, hp1, hpw⟩ := hJ
    subst hH
    refine sa ?_
    refine AW.cutL [] (42 :: 43 :: 44 :: 45 :: 46 :: 47 :: 48 :: 49 :: 50 :: 51 :: 52 :: 53 :: 54 :: 55 :: 56 :: 57 :: 58 :: 59 :: 60 :: 61 :: 62 :: 63 :: 64 :: 65 :: 66 :: 67 :: 68 :: 69 :: 70 :: []) (fun vs M' H' => vs = [] ∧ H' = .blk b2 (.cells #[.string ⟨#[]⟩, .int .i64 0, .slice none 0 0] 98 (0, 0)) :: .blk b (.cells #[.string s, .int .i64 (wE s a : Nat), fv] 95 (0, 0)) :: H) ?_ ?_
    ·
      refine AW.block ?_
      refine AW.loopL [] (42 :: 43 :: 44 :: 45 :: 46 :: 47 :: 48 :: 49 :: 50 :: 51 :: 52 :: 53 :: 54 :: 55 :: 56 :: 57 :: 58 :: 59 :: 60 :: 61 :: 62 :: 63 :: 64 :: 65 :: 66 :: 67 :: 68 :: 69 :: 70 :: []) (fun m vs M' H' => ∃ a1 : Nat, vs = [] ∧ H' = .blk b2 (.cells #[.string ⟨#[]⟩, .int .i64 0, .slice none 0 0] 98 (0, 0)) :: .blk b (.cells #[.string s, .int .i64 (a1 : Nat), fv] 95 (0, 0)) :: H ∧ a ≤ a1 ∧ a1 + m = s.size ∧ wE s a = skO ltP s a1) (s.size - p0) (⟨p0, rfl, rfl, by omega, by omega, hpw⟩) ?_
      intro m Ml Hl iL  hI u42 u43 u44 u45 u46 u47 u48 u49 u50 u51 u52 u53 u54 u55 u56 u57 u58 u59 u60 u61 u62 u63 u64 u65 u66 u67 u68 u69 u70
      obtain ⟨a1, hv, hH, hm0, hm, hw⟩ := hI
      subst hH
      refine sa ?_
      refine AW.seq ?_
      refine AW.seq ?_
      refine AW.regionP mx [0, 1, 2, 3, 4, 5, 6, 7, 8, 9, 10, 11, 12, 13, 14, 15, 16, 17, 18, 19, 20, 21] [[], [0], [0, 1], [0, 1, 2], [], [4], [4, 5], [4, 5, 6], [4, 5, 6, 7], [0, 1, 2, 3, 4, 5, 6, 7, 8], [0, 1, 2, 3, 4, 5, 6, 7, 8, 9], [0, 1, 2, 3, 4, 5, 6, 7, 8, 9, 10], [0, 1, 2, 3, 4, 5, 6, 7, 8, 9, 10, 11], [0, 1, 2, 3, 4, 5, 6, 7, 8, 9, 10, 11, 12], [0, 1, 2, 3, 4, 5, 6, 7, 8, 9, 10, 11, 12, 13], [0, 1, 2, 3, 4, 5, 6, 7, 8, 9, 10], [0, 1, 2, 3, 4, 5, 6, 7, 8, 9, 10, 15], [0, 1, 2, 3, 4, 5, 6, 7, 8, 9, 10, 15, 16], [0, 1, 2, 3, 4, 5, 6, 7, 8, 9, 10, 15, 16, 17], [0, 1, 2, 3, 4, 5, 6, 7, 8, 9, 10, 11, 12, 13, 14, 15, 16, 17, 18], [0, 1, 2, 3, 4, 5, 6, 7, 8, 9, 10, 11, 12, 13, 14, 15, 16, 17, 18, 19], [0, 1, 2, 3, 4, 5, 6, 7, 8, 9, 10, 11, 12, 13, 14, 15, 16, 17, 18, 19, 20]] (by kernel_rfl) ?_
      refine DP.p rfl rfl V.move ?_
      refine DP.p rfl rfl (by first | exact V.nc | exact V.ncF) ?_
      refine DP.p rfl rfl V.faz ?_
      refine DP.lo rfl ?_
      refine DP.p rfl rfl V.move ?_
      refine DP.p rfl rfl (by first | exact V.nc | exact V.ncF) ?_
      refine DP.p rfl rfl V.fa0 ?_
      refine DP.lo rfl ?_
      refine DP.p rfl rfl V.lenS ?_
      refine DP.p rfl rfl V.lss ?_
      refine DP.p rfl rfl V.move ?_
      refine DP.onoff true false rfl 52 (fun h4 => ?_) (fun h4 => ?_)
      ·
        have k4 := bp h4
        refine DP.pOn rfl rfl h4 rfl V.move ?_
        refine DP.pOn rfl rfl h4 rfl (by first | exact V.nc | exact V.ncF) ?_
        refine DP.pOn rfl rfl h4 rfl V.fa0 ?_
        refine DP.loOn rfl rfl h4 ?_
        refine DP.pOn rfl rfl h4 rfl V.move ?_
        refine DP.pOn rfl rfl h4 rfl (by first | exact V.nc | exact V.ncF) ?_
        refine DP.pOn rfl rfl h4 rfl V.faz ?_
        refine DP.loOn rfl rfl h4 ?_
        refine DP.pOn rfl rfl h4 rfl (V.idx (by omega) (by omega)) ?_
        refine DP.eOn rfl rfl h4 rfl (S.call ?_)
        refine (letter_c _ _ _).use ?_
        rintro v N G iz ⟨rfl, hG⟩
        obtain rfl := hG.symm
        refine ⟨(by repeat first | exact pk0 | refine pk1 rfl ?_ | refine pk2 ?_ | refine pk3 ?_), ?_⟩
        refine DP.p rfl rfl (V.pT h4) ?_
        refine DP.nl ?_
        refine cond (fun h5 => ?_) (fun h5 => ?_)
        ·
          have k5 := bp h5
          refine AW.skip ?_
          refine AW.block ?_
          refine AW.region ?_
          refine st V.move ?_
          refine st (by first | exact V.nc | exact V.ncF) ?_
          refine st V.faz ?_
          first | refine st V.ld ?_ | refine sq V.lo ?_
          refine st (V.add64 (by omega)) ?_
          refine st (by first | exact V.nc | exact V.ncF) ?_
          refine st V.faz ?_
          refine se (S.store ?_)
          refine sn ?_
          repeat with_reducible refine inb_normal ?_
          refine thn_normal ?_
          refine rnd (m - 1) _ (by omega) (List.Sublist.refl _) ⟨a1 + 1, rfl, by simp, by omega, by omega, ?_⟩
          rw [hw, skO_eq, if_pos ⟨by omega, by assumption⟩]
        ·
          have k5 := bp h5
          refine AW.exit ?_
          repeat with_reducible refine thn_exit ?_
          refine inb_exit ?_
          repeat with_reducible refine inb_normal ?_
          refine thn_normal ?_
          have he : wE s a = a1 := by rw [hw, skO_eq, if_neg (fun hh => by first | omega | (have h9 := hh.2; simp_all))]
          exact met _ (List.Sublist.refl _) ⟨rfl, by rw [he]⟩
      ·
        have k4 := bp h4
        refine DP.off rfl rfl (by rw [h4]; decide) (by repeat first | exact pk0 | refine pk1 rfl ?_ | refine pk2 ?_ | refine pk3 ?_) ?_
        refine DP.off rfl rfl (by rw [h4]; decide) (by repeat first | exact pk0 | refine pk1 rfl ?_ | refine pk2 ?_ | refine pk3 ?_) ?_
        refine DP.off rfl rfl (by rw [h4]; decide) (by repeat first | exact pk0 | refine pk1 rfl ?_ | refine pk2 ?_ | refine pk3 ?_) ?_
        refine DP.off rfl rfl (by rw [h4]; decide) (by repeat first | exact pk0 | refine pk1 rfl ?_ | refine pk2 ?_ | refine pk3 ?_) ?_
        refine DP.off rfl rfl (by rw [h4]; decide) (by repeat first | exact pk0 | refine pk1 rfl ?_ | refine pk2 ?_ | refine pk3 ?_) ?_
        refine DP.off rfl rfl (by rw [h4]; decide) (by repeat first | exact pk0 | refine pk1 rfl ?_ | refine pk2 ?_ | refine pk3 ?_) ?_
        refine DP.off rfl rfl (by rw [h4]; decide) (by repeat first | exact pk0 | refine pk1 rfl ?_ | refine pk2 ?_ | refine pk3 ?_) ?_
        refine DP.off rfl rfl (by rw [h4]; decide) (by repeat first | exact pk0 | refine pk1 rfl ?_ | refine pk2 ?_ | refine pk3 ?_) ?_
        refine DP.off rfl rfl (by rw [h4]; decide) (by repeat first | exact pk0 | refine pk1 rfl ?_ | refine pk2 ?_ | refine pk3 ?_) ?_
        refine DP.off rfl rfl (by rw [h4]; decide) (by repeat first | exact pk0 | refine pk1 rfl ?_ | refine pk2 ?_ | refine pk3 ?_) ?_
        refine DP.p rfl rfl (V.pF h4) ?_
        refine DP.nl ?_
        refine cond (fun h => by cases h) (fun _ => ?_)
        refine AW.exit ?_
        repeat with_reducible refine thn_exit ?_
        refine inb_exit ?_
        repeat with_reducible refine inb_normal ?_
        refine thn_normal ?_
        have he : wE s a = a1 := by rw [hw, skO_eq, if_neg (fun hh => by first | omega | (have h9 := hh.2; simp_all))]
        exact met _ (List.Sublist.refl _) ⟨rfl, by rw [he]⟩
    ·
      intro Mc6 Hc6 iC6  hJ u42 u43 u44 u45 u46 u47 u48 u49 u50 u51 u52 u53 u54 u55 u56 u57 u58 u59 u60 u61 u62 u63 u64 u65 u66 u67 u68 u69 u70
      obtain ⟨hv, hH⟩ := hJ
      subst hH
      refine sa ?_
      refine AW.seq ?_
      obtain ⟨w, hwx⟩ : ∃ w, s.extract a (wE s a) = w := ⟨_, rfl⟩
      have hwz : w.size = wE s a - a := by rw [← hwx, ByteArray.size_extract]; omega
      refine AW.regionD mx false [0, 1, 2, 3, 4, 5, 6, 7, 8, 9, 10] [[], [0], [0, 1], [0, 1, 2], [], [], [5], [5, 6], [5, 6, 7], [0, 1, 2, 3, 4, 5, 6, 7, 8], [0, 1, 2, 3, 4, 5, 6, 7, 8, 9]] (by kernel_rfl) ?_
      refine D.p rfl rfl V.move ?_
      refine D.p rfl rfl (by first | exact V.nc | exact V.ncF) ?_
      refine D.p rfl rfl V.fa0 ?_
      first | refine D.p rfl rfl V.ld ?_ | refine D.q rfl rfl V.lo ?_
      refine D.p rfl rfl V.move ?_
      refine D.p rfl rfl V.move ?_
      refine D.p rfl rfl (by first | exact V.nc | exact V.ncF) ?_
      refine D.p rfl rfl V.faz ?_
      first | refine D.p rfl rfl V.ld ?_ | refine D.q rfl rfl V.lo ?_
      refine D.p rfl rfl (V.sub1 (by omega) (by omega) (by omega)) ?_
      refine D.p rfl rfl V.assign ?_
      rw [Int.toNat_natCast, Int.toNat_natCast, hwx]
      refine D.nl ?_
      refine AW.cutL [] (3 :: 81 :: 82 :: 83 :: 84 :: 85 :: 86 :: 87 :: 88 :: 89 :: 90 :: 91 :: 92 :: 93 :: 94 :: 95 :: 96 :: 97 :: 98 :: 99 :: 100 :: 101 :: 102 :: 103 :: 104 :: 105 :: 106 :: 107 :: []) (fun vs M' H' => vs = [] ∧ H' = .blk b2 (.cells #[.string ⟨#[]⟩, .int .i64 0, .slice none 0 0] 98 (0, 0)) :: .blk b (.cells #[.string s, .int .i64 (wE s a : Nat), fv] 95 (0, 0)) :: H ∧ ¬ w = ⟨#[]⟩ ∧ ¬ (wE s a < s.size ∧ byt s (wE s a) = 45)) ?_ ?_
      ·
        refine AW.seq ?_
        refine AW.regionD mx false [0, 1, 2, 3, 4, 5, 6, 7, 8, 9, 10, 11, 12, 13, 14, 15, 16, 17, 18, 19, 20, 21, 22, 23, 24, 25] [[], [0], [0, 1], [0, 1, 2], [0, 1, 2, 3], [0, 1, 2, 3, 4], [0, 1, 2, 3, 4, 5], [0, 1, 2], [0, 1, 2, 7], [0, 1, 2, 7, 8], [0, 1, 2, 7, 8, 9], [0, 1, 2, 7, 8, 9, 10], [0, 1, 2, 3, 4, 5, 6, 7, 8, 9, 10, 11], [0, 1, 2, 3, 4, 5, 6, 7, 8, 9, 10, 11, 12], [0, 1, 2, 3, 4, 5, 6, 7, 8, 9, 10, 11, 12, 13], [0, 1, 2, 3, 4, 5, 6, 7, 8, 9, 10, 11, 12, 13, 14], [0, 1, 2, 3, 4, 5, 6, 7, 8, 9, 10, 11, 12, 13, 14, 15], [0, 1, 2, 3, 4, 5, 6, 7, 8, 9, 10, 11, 12, 13, 14, 15, 16], [0, 1, 2, 3, 4, 5, 6, 7, 8, 9, 10, 11, 12, 13], [0, 1, 2, 3, 4, 5, 6, 7, 8, 9, 10, 11, 12, 13, 18], [0, 1, 2, 3, 4, 5, 6, 7, 8, 9, 10, 11, 12, 13, 18, 19], [0, 1, 2, 3, 4, 5, 6, 7, 8, 9, 10, 11, 12, 13, 18, 19, 20], [0, 1, 2, 3, 4, 5, 6, 7, 8, 9, 10, 11, 12, 13, 14, 15, 16, 17, 18, 19, 20, 21], [0, 1, 2, 3, 4, 5, 6, 7, 8, 9, 10, 11, 12, 13, 14, 15, 16, 17, 18, 19, 20, 21, 22], [0, 1, 2, 3, 4, 5, 6, 7, 8, 9, 10, 11, 12, 13, 14, 15, 16, 17, 18, 19, 20, 21, 22, 23], [0, 1, 2, 3, 4, 5, 6, 7, 8, 9, 10, 11, 12, 13, 14, 15, 16, 17, 18, 19, 20, 21, 22, 23, 24]] (by kernel_rfl) ?_
        refine D.p rfl rfl V.move ?_
        refine D.p rfl rfl V.eqs ?_
        refine D.p rfl rfl V.move ?_
        refine D.onoff false true rfl 83 (fun h7 => ?_) (fun h7 => ?_)
        ·
          have k7 := bp h7
          refine D.pOn rfl rfl h7 rfl V.move ?_
          refine D.pOn rfl rfl h7 rfl (by first | exact V.nc | exact V.ncF) ?_
          refine D.pOn rfl rfl h7 rfl V.faz ?_
          first | refine D.pOn rfl rfl h7 rfl V.ld ?_ | refine D.qOn rfl rfl h7 rfl V.lo ?_
          refine D.pOn rfl rfl h7 rfl V.move ?_
          refine D.pOn rfl rfl h7 rfl (by first | exact V.nc | exact V.ncF) ?_
          refine D.pOn rfl rfl h7 rfl V.fa0 ?_
          first | refine D.pOn rfl rfl h7 rfl V.ld ?_ | refine D.qOn rfl rfl h7 rfl V.lo ?_
          refine D.pOn rfl rfl h7 rfl V.lenS ?_
          refine D.pOn rfl rfl h7 rfl V.lss ?_
          refine D.pOn rfl rfl h7 rfl V.move ?_
          refine D.onoff true false rfl 94 (fun h8 => ?_) (fun h8 => ?_)
          ·
            have k8 := bp h8
            refine D.pOn rfl rfl h8 rfl V.move ?_
            refine D.pOn rfl rfl h8 rfl (by first | exact V.nc | exact V.ncF) ?_
            refine D.pOn rfl rfl h8 rfl V.fa0 ?_
            first | refine D.pOn rfl rfl h8 rfl V.ld ?_ | refine D.qOn rfl rfl h8 rfl V.lo ?_
            refine D.pOn rfl rfl h8 rfl V.move ?_
            refine D.pOn rfl rfl h8 rfl (by first | exact V.nc | exact V.ncF) ?_
            refine D.pOn rfl rfl h8 rfl V.faz ?_
            first | refine D.pOn rfl rfl h8 rfl V.ld ?_ | refine D.qOn rfl rfl h8 rfl V.lo ?_
            refine D.pOn rfl rfl h8 rfl (V.idx (by omega) (by omega)) ?_
            refine D.pOn rfl rfl h8 rfl V.eql ?_
            refine D.pOn rfl rfl h7 rfl (V.pT h8) ?_
            refine D.p rfl rfl (V.pF h7) ?_
            refine D.nl ?_
            refine cond (fun h9 => ?_) (fun h9 => ?_)
            ·
              have k9 := bp h9
              refine AW.seq ?_
              refine AW.region ?_
              refine st (V.build (cells := [.string ⟨#[]⟩, .int .i64 0, .slice none 0 0]) rfl) ?_
              refine se (S.storeA rfl ?_)
              refine st V.assign ?_
              refine sn ?_
              refine AW.ret ?_
              repeat with_reducible first | refine thn_ret ?_ | refine inb_ret ?_
              refine fin (Res.ic2 rfl) ?_
              have e9 : wordF s a = none := word_1 ⟨by omega, by omega⟩
              exact ⟨_, (by repeat first | exact List.Sublist.refl _ | apply List.Sublist.cons), ⟨_, _, _, rfl, by rw [e9]; rfl, fun t h => by rw [e9] at h; cases h⟩, rfl⟩
            ·
              have k9 := bp h9
              refine AW.skip ?_
              repeat with_reducible refine inb_normal ?_
              refine thn_normal ?_
              exact met _ (List.Sublist.refl _) ⟨rfl, rfl, by assumption, by omega⟩
          ·
            have k8 := bp h8
            refine D.off rfl rfl (by rw [h8]; decide) ?_
            refine D.off rfl rfl (by rw [h8]; decide) ?_
            refine D.off rfl rfl (by rw [h8]; decide) ?_
            refine D.off rfl rfl (by rw [h8]; decide) ?_
            refine D.off rfl rfl (by rw [h8]; decide) ?_
            refine D.off rfl rfl (by rw [h8]; decide) ?_
            refine D.off rfl rfl (by rw [h8]; decide) ?_
            refine D.off rfl rfl (by rw [h8]; decide) ?_
            refine D.off rfl rfl (by rw [h8]; decide) ?_
            refine D.off rfl rfl (by rw [h8]; decide) ?_
            refine D.pOn rfl rfl h7 rfl (V.pF h8) ?_
            refine D.p rfl rfl (V.pF h7) ?_
            refine D.nl ?_
            refine cond (fun h => by cases h) (fun _ => ?_)
            refine AW.skip ?_
            repeat with_reducible refine inb_normal ?_
            refine thn_normal ?_
            exact met _ (List.Sublist.refl _) ⟨rfl, rfl, by assumption, by omega⟩
        ·
          have k7 := bp h7
          refine D.off rfl rfl (by rw [h7]; decide) ?_
          refine D.off rfl rfl (by rw [h7]; decide) ?_
          refine D.off rfl rfl (by rw [h7]; decide) ?_
          refine D.off rfl rfl (by rw [h7]; decide) ?_
          refine D.off rfl rfl (by rw [h7]; decide) ?_
          refine D.off rfl rfl (by rw [h7]; decide) ?_
          refine D.off rfl rfl (by rw [h7]; decide) ?_
          refine D.off rfl rfl (by rw [h7]; decide) ?_
          refine D.off rfl rfl (by rw [h7]; decide) ?_
          refine D.off rfl rfl (by rw [h7]; decide) ?_
          refine D.off rfl rfl (by rw [h7]; decide) ?_
          refine D.offU rfl rfl ?_
          refine D.offU rfl rfl ?_
          refine D.offU rfl rfl ?_
          refine D.offU rfl rfl ?_
          refine D.offU rfl rfl ?_
          refine D.offU rfl rfl ?_
          refine D.offU rfl rfl ?_
          refine D.offU rfl rfl ?_
          refine D.offU rfl rfl ?_
          refine D.offU rfl rfl ?_
          refine D.off rfl rfl (by rw [h7]; decide) ?_
          refine D.p rfl rfl (V.pT h7) ?_
          refine D.nl ?_
          refine cond (fun _ => ?_) (fun h => by cases h)
          refine AW.seq ?_
          refine AW.region ?_
          refine st (V.build (cells := [.string ⟨#[]⟩, .int .i64 0, .slice none 0 0]) rfl) ?_
          refine se (S.storeA rfl ?_)
          refine st V.assign ?_
          refine sn ?_
          refine AW.ret ?_
          repeat with_reducible first | refine thn_ret ?_ | refine inb_ret ?_
          refine fin (Res.ic2 rfl) ?_
          have e9 : wordF s a = none := word_0 hwx (by assumption)
          exact ⟨_, (by repeat first | exact List.Sublist.refl _ | apply List.Sublist.cons), ⟨_, _, _, rfl, by rw [e9]; rfl, fun t h => by rw [e9] at h; cases h⟩, rfl⟩
      ·
        intro Mc9 Hc9 iC9  hJ u3 u81 u82 u83 u84 u85 u86 u87 u88 u89 u90 u91 u92 u93 u94 u95 u96 u97 u98 u99 u100 u101 u102 u103 u104 u105 u106 u107
        obtain ⟨hv, hH, hw0, hw1⟩ := hJ
        subst hH
        have hwp := size_pos hw0
        refine sa ?_
        refine AW.cutL [] (3 :: 108 :: 109 :: 110 :: 111 :: 112 :: 113 :: 114 :: 115 :: 116 :: 117 :: []) (fun vs M' H' => vs = [] ∧ H' = .blk b2 (.cells #[.string ⟨#[]⟩, .int .i64 0, .slice none 0 0] 98 (0, 0)) :: .blk b (.cells #[.string s, .int .i64 (wE s a : Nat), fv] 95 (0, 0)) :: H ∧ ¬ (65 ≤ byt w 0 ∧ byt w 0 ≤ 90)) ?_ ?_
        ·
          refine AW.seq ?_
          refine AW.region ?_
          refine st V.move ?_
          refine st (V.idx (by omega) (by omega)) ?_
          refine st V.geq ?_
          refine st V.move ?_
          refine onoff false rfl rfl (fun h12 => ?_) (fun h12 => ?_)
          ·
            have k12 := bp h12
            refine st V.move ?_
            refine on rfl h12 ?_
            refine st (V.idx (by omega) (by omega)) ?_
            refine on rfl h12 ?_
            refine st V.leq ?_
            refine st (V.pT h12) ?_
            refine sn ?_
            refine cond (fun h13 => ?_) (fun h13 => ?_)
            ·
              have k13 := bp h13
              refine AW.seq ?_
              refine AW.region ?_
              refine st V.move ?_
              refine st (V.build (cells := [.string w, .int .i64 0, .slice none 0 0]) rfl) ?_
              refine se (S.storeA rfl ?_)
              refine st V.assign ?_
              refine sn ?_
              refine AW.ret ?_
              repeat with_reducible first | refine thn_ret ?_ | refine inb_ret ?_
              refine fin (Res.ic2 rfl) ?_
              have e9 : wordF s a = some ⟨w, 0, []⟩ := by rw [word_n hw1 hwx, wdF, if_neg hw0, if_pos ⟨by omega, by omega⟩]
              exact ⟨_, (by repeat first | exact List.Sublist.refl _ | apply List.Sublist.cons), ⟨_, _, _, rfl, by rw [e9]; rfl, fun t h => by rw [e9] at h; cases h; rfl⟩, rfl⟩
            ·
              have k13 := bp h13
              refine AW.skip ?_
              repeat with_reducible refine inb_normal ?_
              refine thn_normal ?_
              exact met _ (List.Sublist.refl _) ⟨rfl, rfl, by omega⟩
          ·
            have k12 := bp h12
            refine off rfl h12 ?_
            refine off rfl h12 ?_
            refine st (V.pF h12) ?_
            refine sn ?_
            refine cond (fun h => by cases h) (fun _ => ?_)
            refine AW.skip ?_
            repeat with_reducible refine inb_normal ?_
            refine thn_normal ?_
            exact met _ (List.Sublist.refl _) ⟨rfl, rfl, by omega⟩
        ·
          intro Mc11 Hc11 iC11  hJ u3 u108 u109 u110 u111 u112 u113 u114 u115 u116 u117
          obtain ⟨hv, hH, hw2⟩ := hJ
          subst hH
          refine sa ?_
          refine AW.seq ?_
          refine AW.seq ?_
          refine AW.region ?_
          refine st V.move ?_
          refine st V.lenS ?_
          refine st V.move ?_
          refine sn ?_
          refine AW.block ?_
          refine AW.loopL [120] (3 :: 6 :: 121 :: 122 :: 123 :: 124 :: 125 :: 126 :: 127 :: 128 :: 129 :: 130 :: 131 :: 132 :: 133 :: 134 :: 135 :: 136 :: 137 :: 138 :: 139 :: 140 :: 141 :: 142 :: 143 :: 144 :: []) (fun m vs M' H' => ∃ i : Nat, vs = [.int .i64 (i : Int)] ∧ H' = .blk b2 (.cells #[.string ⟨#[]⟩, .int .i64 0, .slice none 0 0] 98 (0, 0)) :: .blk b (.cells #[.string s, .int .i64 (wE s a : Nat), fv] 95 (0, 0)) :: H ∧ i + m = w.size ∧ ∀ j : Nat, j < i → ¬ ((byt w j < 48 ∨ 57 < byt w j) ∧ (0 < j ∨ byt w j ≠ 45))) (w.size) (⟨0, rfl, rfl, by omega, fun j h => by omega⟩) ?_
          intro m1 Ml1 Hl1 iL1 u120 hI1 u3 u6 u121 u122 u123 u124 u125 u126 u127 u128 u129 u130 u131 u132 u133 u134 u135 u136 u137 u138 u139 u140 u141 u142 u143 u144
          obtain ⟨i, hv, hH, hi, hall⟩ := hI1
          subst hH
          cases hv
          refine sa ?_
          refine AW.seq ?_
          refine AW.region ?_
          refine st V.lss ?_
          refine sn ?_
          refine AW.seq ?_
          refine cond (fun h15 => ?_) (fun h15 => ?_)
          ·
            have k15 := bp h15
            refine AW.skip ?_
            refine AW.seq ?_
            refine AW.block ?_
            refine AW.seq ?_
            refine AW.region ?_
            refine st V.move ?_
            refine st V.assign ?_
            refine sn ?_
            refine AW.seq ?_
            refine AW.region ?_
            refine st V.move ?_
            refine st V.move ?_
            refine st (V.idx (by omega) (by omega)) ?_
            refine st V.lss ?_
            refine st V.move ?_
            refine onoff true rfl rfl (fun h16 => ?_) (fun h16 => ?_)
            ·
              have k16 := bp h16
              refine st V.move ?_
              refine on rfl h16 ?_
              refine st V.move ?_
              refine on rfl h16 ?_
              refine st (V.idx (by omega) (by omega)) ?_
              refine on rfl h16 ?_
              refine st V.gtr ?_
              refine st (V.pF h16) ?_
              refine st V.move ?_
              refine onoff false rfl rfl (fun h17 => ?_) (fun h17 => ?_)
              ·
                have k17 := bp h17
                refine st V.move ?_
                refine on rfl h17 ?_
                refine st V.gtr ?_
                refine on rfl h17 ?_
                refine st V.move ?_
                refine onoff true rfl rfl (fun h18 => ?_) (fun h18 => ?_)
                ·
                  have k18 := bp h18
                  refine st V.move ?_
                  refine on rfl h18 ?_
                  refine st V.move ?_
                  refine on rfl h18 ?_
                  refine st (V.idx (by omega) (by omega)) ?_
                  refine on rfl h18 ?_
                  refine st V.neq ?_
                  refine on rfl h17 ?_
                  refine st (V.pF h18) ?_
                  refine st (V.pT h17) ?_
                  refine sn ?_
                  refine cond (fun h19 => ?_) (fun h19 => ?_)
                  ·
                    have k19 := bp h19
                    refine AW.seq ?_
                    refine AW.region ?_
                    refine st (V.build (cells := [.string ⟨#[]⟩, .int .i64 0, .slice none 0 0]) rfl) ?_
                    refine se (S.storeA rfl ?_)
                    refine st V.assign ?_
                    refine sn ?_
                    refine AW.ret ?_
                    repeat with_reducible first | refine thn_ret ?_ | refine inb_ret ?_
                    refine fin (Res.ic2 rfl) ?_
                    have e9 : wordF s a = none := by rw [word_n hw1 hwx, wdF, if_neg hw0, if_neg hw2, if_neg (fun hn => hn i (by omega) ⟨by omega, by omega⟩)]
                    exact ⟨_, (by repeat first | exact List.Sublist.refl _ | apply List.Sublist.cons), ⟨_, _, _, rfl, by rw [e9]; rfl, fun t h => by rw [e9] at h; cases h⟩, rfl⟩
                  ·
                    have k19 := bp h19
                    refine AW.skip ?_
                    refine AW.region ?_
                    refine st (V.add64 (by omega)) ?_
                    refine st V.move ?_
                    refine sn ?_
                    repeat with_reducible refine inb_normal ?_
                    refine thn_normal ?_
                    refine rnd (m1 - 1) _ (by omega) (List.Sublist.refl _) ⟨i + 1, by simp, rfl, by omega, fun j hj => ?_⟩
                    rcases Nat.lt_or_ge j i with h | h
                    · exact hall j h
                    · obtain rfl : j = i := by omega
                      omega
                ·
                  have k18 := bp h18
                  refine off rfl h18 ?_
                  refine off rfl h18 ?_
                  refine off rfl h18 ?_
                  refine on rfl h17 ?_
                  refine st (V.pT h18) ?_
                  refine st (V.pT h17) ?_
                  refine sn ?_
                  refine cond (fun _ => ?_) (fun h => by cases h)
                  refine AW.seq ?_
                  refine AW.region ?_
                  refine st (V.build (cells := [.string ⟨#[]⟩, .int .i64 0, .slice none 0 0]) rfl) ?_
                  refine se (S.storeA rfl ?_)
                  refine st V.assign ?_
                  refine sn ?_
                  refine AW.ret ?_
                  repeat with_reducible first | refine thn_ret ?_ | refine inb_ret ?_
                  refine fin (Res.ic2 rfl) ?_
                  have e9 : wordF s a = none := by rw [word_n hw1 hwx, wdF, if_neg hw0, if_neg hw2, if_neg (fun hn => hn i (by omega) ⟨by omega, by omega⟩)]
                  exact ⟨_, (by repeat first | exact List.Sublist.refl _ | apply List.Sublist.cons), ⟨_, _, _, rfl, by rw [e9]; rfl, fun t h => by rw [e9] at h; cases h⟩, rfl⟩
              ·
                have k17 := bp h17
                refine off rfl h17 ?_
                refine off rfl h17 ?_
                refine offU rfl ?_
                refine offU rfl ?_
                refine offU rfl ?_
                refine offU rfl ?_
                refine off rfl h17 ?_
                refine st (V.pF h17) ?_
                refine sn ?_
                refine cond (fun h => by cases h) (fun _ => ?_)
                refine AW.skip ?_
                refine AW.region ?_
                refine st (V.add64 (by omega)) ?_
                refine st V.move ?_
                refine sn ?_
                repeat with_reducible refine inb_normal ?_
                refine thn_normal ?_
                refine rnd (m1 - 1) _ (by omega) (List.Sublist.refl _) ⟨i + 1, by simp, rfl, by omega, fun j hj => ?_⟩
                rcases Nat.lt_or_ge j i with h | h
                · exact hall j h
                · obtain rfl : j = i := by omega
                  omega
            ·
              have k16 := bp h16
              refine off rfl h16 ?_
              refine off rfl h16 ?_
              refine off rfl h16 ?_
              refine st (V.pT h16) ?_
              refine st V.move ?_
              refine on rfl rfl ?_
              refine st V.move ?_
              refine on rfl rfl ?_
              refine st V.gtr ?_
              refine on rfl rfl ?_
              refine st V.move ?_
              refine onoff true rfl rfl (fun h22 => ?_) (fun h22 => ?_)
              ·
                have k22 := bp h22
                refine st V.move ?_
                refine on rfl h22 ?_
                refine st V.move ?_
                refine on rfl h22 ?_
                refine st (V.idx (by omega) (by omega)) ?_
                refine on rfl h22 ?_
                refine st V.neq ?_
                refine on rfl rfl ?_
                refine st (V.pF h22) ?_
                refine st (V.pT rfl) ?_
                refine sn ?_
                refine cond (fun h23 => ?_) (fun h23 => ?_)
                ·
                  have k23 := bp h23
                  refine AW.seq ?_
                  refine AW.region ?_
                  refine st (V.build (cells := [.string ⟨#[]⟩, .int .i64 0, .slice none 0 0]) rfl) ?_
                  refine se (S.storeA rfl ?_)
                  refine st V.assign ?_
                  refine sn ?_
                  refine AW.ret ?_
                  repeat with_reducible first | refine thn_ret ?_ | refine inb_ret ?_
                  refine fin (Res.ic2 rfl) ?_
                  have e9 : wordF s a = none := by rw [word_n hw1 hwx, wdF, if_neg hw0, if_neg hw2, if_neg (fun hn => hn i (by omega) ⟨by omega, by omega⟩)]
                  exact ⟨_, (by repeat first | exact List.Sublist.refl _ | apply List.Sublist.cons), ⟨_, _, _, rfl, by rw [e9]; rfl, fun t h => by rw [e9] at h; cases h⟩, rfl⟩
                ·
                  have k23 := bp h23
                  refine AW.skip ?_
                  refine AW.region ?_
                  refine st (V.add64 (by omega)) ?_
                  refine st V.move ?_
                  refine sn ?_
                  repeat with_reducible refine inb_normal ?_
                  refine thn_normal ?_
                  refine rnd (m1 - 1) _ (by omega) (List.Sublist.refl _) ⟨i + 1, by simp, rfl, by omega, fun j hj => ?_⟩
                  rcases Nat.lt_or_ge j i with h | h
                  · exact hall j h
                  · obtain rfl : j = i := by omega
                    omega
              ·
                have k22 := bp h22
                refine off rfl h22 ?_
                refine off rfl h22 ?_
                refine off rfl h22 ?_
                refine on rfl rfl ?_
                refine st (V.pT h22) ?_
                refine st (V.pT rfl) ?_
                refine sn ?_
                refine cond (fun _ => ?_) (fun h => by cases h)
                refine AW.seq ?_
                refine AW.region ?_
                refine st (V.build (cells := [.string ⟨#[]⟩, .int .i64 0, .slice none 0 0]) rfl) ?_
                refine se (S.storeA rfl ?_)
                refine st V.assign ?_
                refine sn ?_
                refine AW.ret ?_
                repeat with_reducible first | refine thn_ret ?_ | refine inb_ret ?_
                refine fin (Res.ic2 rfl) ?_
                have e9 : wordF s a = none := by rw [word_n hw1 hwx, wdF, if_neg hw0, if_neg hw2, if_neg (fun hn => hn i (by omega) ⟨by omega, by omega⟩)]
                exact ⟨_, (by repeat first | exact List.Sublist.refl _ | apply List.Sublist.cons), ⟨_, _, _, rfl, by rw [e9]; rfl, fun t h => by rw [e9] at h; cases h⟩, rfl⟩
          ·
            have k15 := bp h15
            refine AW.exit ?_
            repeat with_reducible refine thn_exit ?_
            refine inb_exit ?_
            refine AW.seq ?_
            have hnw : NumW w := fun j hj => hall j (by omega)
            refine AW.region ?_
            refine st V.move ?_
            refine se (S.call ?_)
            refine (pint_c _ _ hGM.up w (by omega)).use ?_
            rintro v8 N8 G8 iz8 ⟨⟨nu, ev, rfl, hpi⟩, hG⟩
            obtain rfl := hG.symm
            refine st V.move ?_
            refine st V.ext ?_
            refine st V.ext ?_
            refine st V.assign ?_
            refine st V.assign ?_
            refine sn ?_
            refine AW.seq ?_
            refine AW.regionD mx true [0, 1, 2, 3, 4, 5] [[], [0], [], [2], [0, 1], [0, 1, 2, 3, 4]] (by kernel_rfl) ?_
            refine D.p rfl rfl V.move ?_
            refine D.p rfl rfl (V.build (cells := [.string ⟨#[]⟩, .int .i64 nu, .slice none 0 0]) rfl) ?_
            refine D.p rfl rfl V.move ?_
            refine D.p rfl rfl (V.eqi0 hpi.kind) ?_
            refine D.e rfl rfl (S.storeA rfl ?_)
            refine D.p rfl rfl V.assign ?_
            refine D.nl ?_
            refine AW.ret ?_
            repeat with_reducible first | refine thn_ret ?_ | refine inb_ret ?_
            refine fin (Res.ic2 rfl) ?_
            have e9 := wd_num hw0 hw2 hnw hpi
            rw [word_n hw1 hwx]
            exact ⟨_, (by repeat first | exact List.Sublist.refl _ | apply List.Sublist.cons), ⟨_, _, _, rfl, e9.1, e9.2⟩, rfl⟩
end Go.Proofs.YtieaiheejhmbfaaGreatDoor.ML
