/- Walks of functions of the program, in the abstract layer. No conditions. -/
import Derived.Test.YtieaiheejhmbfaaGreatDoorPk8
import Derived.Test.YtieaiheejhmbfaaGreatDoorPk5
namespace Go.Proofs.YtieaiheejhmbfaaGreatDoor.ML
open Go.RowKit
set_option linter.unusedVariables false
set_option linter.unusedSimpArgs false
set_option maxHeartbeats 1600000 in
set_option synthInstance.maxHeartbeats 400000 in
set_option synthInstance.maxSize 100000 in
set_option maxRecDepth 100000 in
theorem counts_c (M : Mem) (H : Heap) (Ad : Option Addr) (cd : Nat) (d : List DT) (hd : RdS 2 (RdD M) Ad cd d) (t : Int) (A : Option Addr) (c : Nat) (v : VT) (hv : VV M A c v) :
    AC Tryz.prog 16 [.slice Ad d.length cd, .int .i64 t, .agg #[.int .i64 v.num, .int .i64 v.con, .slice A v.args.length c]] M H fun r M' H' => ∃ A' c', r = .tuple #[.slice A' (countsF d t v).1.length c', .int .i64 (countsF d t v).2] ∧ RdS 1 (RdI M') A' c' (countsF d t v).1 ∧ H' = H := by
  refine AC.of (n := 44) Tryz.func16 rfl rfl ?_
  dsimp only [List.replicate, List.cons_append, List.nil_append]
  refine AW.seq ?_
  refine AW.region ?_
  refine se (S.boxM ?_); intro b5 M5 i5 j5
  refine st V.assign ?_
  refine st V.assign ?_
  refine sn ?_
  refine AW.seq ?_
  refine AW.seq ?_
  refine AW.region ?_
  refine st V.move ?_
  refine st V.move ?_
  first | refine st V.ldA ?_ | refine sq V.loA ?_
  refine se (S.call ?_)
  refine (vcheck_c _ _ Ad cd d hd.upD t A c v (VV.up hv)).use ?_
  rintro v N G iz ⟨rfl, hG⟩
  obtain rfl := hG.symm
  refine st V.assign ?_
  refine sn ?_
  refine AW.seq ?_
  refine AW.region ?_
  refine st V.move ?_
  refine st V.neq ?_
  refine sn ?_
  refine cond (fun h1 => ?_) (fun h1 => ?_)
  ·
    have k1 := bp h1
    refine AW.seq ?_
    refine AW.region ?_
    refine st V.move ?_
    refine st V.assign ?_
    refine st V.assign ?_
    refine sn ?_
    refine AW.ret ?_
    repeat with_reducible first | refine thn_ret ?_ | refine inb_ret ?_
    refine fin (Res.i2 rfl) ?_
    have e : countsF d t v = ([], (cellsF d t v).2) := by rw [countsF, if_pos k1]
    refine ⟨_, List.Sublist.refl _, none, 0, by rw [e]; rfl, by rw [e]; exact RdS.nil, rfl⟩
  ·
    have k1 := bp h1
    refine AW.skip ?_
    refine AW.seq ?_
    refine AW.region ?_
    refine st V.move ?_
    refine st V.move ?_
    refine se (S.call ?_)
    refine (of_c _ _ Ad cd d hd.upD t).use ?_
    rintro v4 N4 G4 iz4 ⟨Ap, cp, rfl, ep, hG⟩
    obtain rfl := hG.symm
    have hbp := ep.bd
    have hbo := of_bd d t
    refine st V.assign ?_
    refine sn ?_
    refine AW.seq ?_
    refine AW.region ?_
    refine st V.move ?_
    refine st V.len ?_
    refine se (S.makeMapR ?_)
    intro b26
    refine se (S.alloc ?_); intro b10
    refine se (S.store ?_)
    refine sn ?_
    refine AW.seq ?_
    refine AW.seq ?_
    refine AW.region ?_
    refine st V.move ?_
    refine st V.len ?_
    refine st V.move ?_
    refine sn ?_
    refine AW.block ?_
    refine AW.loopL [29] (11 :: 12 :: 30 :: 31 :: 32 :: 33 :: 34 :: 35 :: 36 :: 37 :: []) (fun n vs M' H' => ∃ (i : Nat) (m : Value → Option Value), vs = [.int .i64 (i : Int)] ∧ H' = .blk b10 (.cells #[.map (some b26)] 78 (0, 0)) :: .mp b26 PairK m :: H ∧ IdxM ((ofF d t).take i) m ∧ i + n = (ofF d t).length) ((ofF d t).length) (⟨0, _, rfl, rfl, IdxM.nil, by omega⟩) ?_
    intro n Ml Hl iL u29 hI u11 u12 u30 u31 u32 u33 u34 u35 u36 u37
    obtain ⟨i, m, hv', hH, hm, hi⟩ := hI
    subst hH
    cases hv'
    refine sa ?_
    refine AW.seq ?_
    refine AW.region ?_
    refine st V.lss ?_
    refine sn ?_
    refine AW.seq ?_
    refine cond (fun h2 => ?_) (fun h2 => ?_)
    ·
      have k2 := bp h2
      refine AW.skip ?_
      refine AW.seq ?_
      refine AW.block ?_
      refine AW.seq ?_
      have z6 : i < (ofF d t).length := by omega
      obtain ⟨b8, o8, hA8, e8, f8⟩ := (ep.upP (M' := Ml)).at i z6
      refine AW.region ?_
      refine st V.move ?_
      refine st (V.ib i rfl z6 hA8) ?_
      first | refine st V.ldA ?_ | refine sq V.loA ?_
      refine se (S.alloc ?_); intro b12
      refine st V.assign ?_
      refine se (S.storeA rfl ?_)
      refine sn ?_
      refine AW.region ?_
      first | refine st V.ld ?_ | refine sq V.lo ?_
      first | refine st V.ldA ?_ | refine sq V.loA ?_
      refine st V.move ?_
      refine se (S.mapUpdate ⟨_, _, rfl⟩ ?_)
      refine sn ?_
      refine AW.region ?_
      refine st (V.add64 (by omega)) ?_
      refine st V.move ?_
      refine sn ?_
      repeat with_reducible refine inb_normal ?_
      refine thn_normal ?_
      have hnin : (ofF d t)[i] ∉ (ofF d t).take i := fun h => by have := of_nodup d t; rw [← List.take_append_drop i (ofF d t), List.nodup_append] at this; exact this.2.2 _ h _ (by rw [List.drop_eq_getElem_cons z6]; exact List.mem_cons_self ..) rfl
      have hm2 := hm.push hnin
      rw [← take_succ _ _ z6, List.length_take, Nat.min_eq_left (by omega)] at hm2
      refine rnd (n - 1) (.blk b10 _ :: .mp b26 PairK _ :: H) (by omega) (by repeat first | exact List.Sublist.refl _ | apply List.Sublist.cons) ⟨i + 1, _, by simp, rfl, hm2, by omega⟩
    ·
      have k2 := bp h2
      refine AW.exit ?_
      repeat with_reducible refine thn_exit ?_
      refine inb_exit ?_
      refine AW.seq ?_
      rw [List.take_of_length_le (by omega)] at hm
      have hck := cells_ok k1
      refine AW.region ?_
      refine st V.move ?_
      refine st V.len ?_
      refine se (S.make (k := .i64) (k' := .i64) (n := (ofF d t).length) (by omega) (by omega) ?_)
      intro g40
      rw [show ((madeCells (Value.int .i64 0).cells ((ofF d t).length * 1)).toList) = _ from by rw [Nat.mul_one, madeCells_int]]
      refine se (S.alloc ?_); intro b13
      refine se (S.store ?_)
      refine sn ?_
      refine AW.seq ?_
      refine AW.fz 0 fun Mv iv jv => ?_
      refine AW.front 1 ?_
      refine AW.fz 0 fun Mw iw jw => ?_
      refine AW.region ?_
      refine st V.move ?_
      refine st V.move ?_
      first | refine st V.ldA ?_ | refine sq V.loA ?_
      refine st V.fn ?_
      refine se (S.call (fst := []) (cap := []) ?_)
      refine (walk_c d hck.1 (countF (ofF d t)) (fun out => .row (some ⟨g40, 0, none⟩) (ofF d t).length (ofF d t).length 3 1 (out.map (.int .i64)) :: .mp b26 PairK m :: H) 38 [.pointer (some ⟨b10, 0, none⟩), .pointer (some ⟨b13, 0, none⟩)] t v ⟨hck.2.1, hck.2.2.1⟩ (List.replicate (ofF d t).length 0) _ Ad cd A c hd.upD (VV.up hv) (fun M' q E out t' con => AC.swap ((cnt1_c M' _ b10 b13 b26 g40 _ _ m (ofF d t) hm rfl hbp (Mb.up (M := Mw) inferInstance) (Mb.up (M := Mw) inferInstance) out t' con).use fun v M2 H2 _ h => ⟨_, h.2, h.1, rfl⟩))).use ?_
      rintro v N G iz ⟨rfl, hG⟩
      obtain rfl := hG.symm
      refine sn ?_
      refine AW.seq ?_
      refine AW.kp 0 fun Mk ik hk => ?_
      refine AW.region ?_
      first | refine st V.ld ?_ | refine sq V.lo ?_
      refine st V.assign ?_
      refine st V.assign ?_
      refine sn ?_
      refine AW.ret ?_
      repeat with_reducible first | refine thn_ret ?_ | refine inb_ret ?_
      refine fin (Res.i2 rfl) ?_
      have hl := (counts_len d (countF (ofF d t)) (fun out => out.length = (ofF d t).length) (fun s t con h => by rw [countF_len]; exact h)).1 t v 0 (List.replicate (ofF d t).length 0) (by simp)
      have e : countsF d t v = ((wV d (countF (ofF d t)) t v 0 (List.replicate (ofF d t).length 0)).2.2, 0) := by rw [countsF, if_neg (fun h => h k1)]
      refine ⟨_, (by repeat first | exact List.Sublist.refl _ | apply List.Sublist.cons), some ⟨g40, 0, none⟩, (ofF d t).length, ?_, ?_, rfl⟩
      · rw [e]; simp only [hl]
      · rw [e]; exact hk.ints hl (by omega)
end Go.Proofs.YtieaiheejhmbfaaGreatDoor.ML
/- Walks of functions of the program, in the abstract layer. No conditions. -/
namespace Go.Proofs.YtieaiheejhmbfaaGreatDoor.ML
open Go.RowKit
set_option linter.unusedVariables false
set_option linter.unusedSimpArgs false
set_option maxHeartbeats 1600000 in
set_option synthInstance.maxHeartbeats 400000 in
set_option synthInstance.maxSize 100000 in
set_option maxRecDepth 100000 in
theorem size_c : ∀ (z : Nat) (v : VT), SizeOf.sizeOf v < z → ∀ (n most : Int), 0 ≤ n → n ≤ most → most ≤ 1000 → ∀ (M : Mem) (H : Heap) (A : Option Addr) (c : Nat), VV M A c v →
    AC Tryz.prog 28 [.agg #[.int .i64 v.num, .int .i64 v.con, .slice A v.args.length c], .int .i64 n, .int .i64 most] M H fun r _ H' => r = .int .i64 (szV most v n) ∧ H' = H
  | 0, _, hz => by omega
  | z + 1, v, hz => by
    intro n most h0 hn hm M H A c hv
    have hba : v.args.length ≤ 140737488355328 := RdS.bd hv
    refine AC.of (n := 28) Tryz.func28 rfl rfl ?_
    dsimp only [List.replicate, List.cons_append, List.nil_append]
    refine AW.seq ?_
    refine AW.region ?_
    refine se (S.boxM ?_); intro b3 M3 i3 j3
    refine st V.assign ?_
    refine sn ?_
    refine AW.seq ?_
    refine AW.region ?_
    refine st V.move ?_
    refine st (V.add64 (by omega)) ?_
    refine st V.assign ?_
    refine sn ?_
    refine AW.seq ?_
    refine AW.seq ?_
    refine AW.region ?_
    refine st V.assign ?_
    refine sn ?_
    refine AW.block ?_
    refine AW.loopL [1, 7] (10 :: 11 :: 12 :: 13 :: 14 :: 15 :: 16 :: 17 :: 18 :: 19 :: 20 :: 21 :: 22 :: 23 :: 24 :: 25 :: 26 :: 27 :: 28 :: 29 :: []) (fun m vs M' H' => ∃ (i : Nat) (k : Int), vs = [.int .i64 k, .int .i64 (i : Int)] ∧ H' = H ∧ i + m = v.args.length ∧ 0 ≤ k ∧ k ≤ most + 1 ∧ szV most v n = szL most (v.args.drop i) k) (v.args.length) (⟨0, n + 1, rfl, rfl, by omega, by omega, by omega, szV_eq most v n⟩) ?_
    intro m Ml Hl iL u1 u7 hI u10 u11 u12 u13 u14 u15 u16 u17 u18 u19 u20 u21 u22 u23 u24 u25 u26 u27 u28 u29
    obtain ⟨i, k, hv', hH, hi, hk0, hk1, hw⟩ := hI
    obtain rfl := hH.symm
    cases hv'
    refine sa ?_
    refine AW.seq ?_
    refine AW.seq ?_
    refine AW.region ?_
    refine st V.move ?_
    refine st V.faz ?_
    first | refine st V.ld ?_ | refine sq V.lo ?_
    refine st V.len ?_
    refine st V.lss ?_
    refine st V.move ?_
    refine onoff false rfl rfl (fun h1 => ?_) (fun h1 => ?_)
    ·
      have k1 := bp h1
      refine st V.move ?_
      refine on rfl h1 ?_
      refine st V.move ?_
      refine on rfl h1 ?_
      refine st V.leq ?_
      refine st (V.pT h1) ?_
      refine sn ?_
      refine cond (fun h2 => ?_) (fun h2 => ?_)
      ·
        have k2 := bp h2
        refine AW.skip ?_
        refine AW.seq ?_
        refine AW.block ?_
        have z6 : i < v.args.length := by omega
        obtain ⟨ba, oa, hAa, ea⟩ := (VV.up (M' := Ml) hv).at i z6
        obtain ⟨Ax, cx, x0, x1, x2, xs⟩ := ea.get
        refine AW.region ?_
        refine st V.faz ?_
        first | refine st V.ld ?_ | refine sq V.lo ?_
        refine st V.move ?_
        refine st (V.ib i rfl z6 hAa) ?_
        first | refine st V.ldA ?_ | refine sq V.loA ?_
        refine st V.move ?_
        refine st V.move ?_
        refine se (S.call ?_)
        refine (size_c z v.args[i] (by have := List.sizeOf_lt_of_mem (List.getElem_mem z6); cases v; simp [VT.args] at *; omega) k most hk0 k2 hm _ _ Ax cx xs).use ?_
        rintro v N G iz ⟨rfl, hG⟩
        obtain rfl := hG.symm
        refine st V.assign ?_
        refine sn ?_
        refine AW.region ?_
        refine st V.move ?_
        refine st (V.add64 (by omega)) ?_
        refine st V.assign ?_
        refine sn ?_
        repeat with_reducible refine inb_normal ?_
        refine thn_normal ?_
        have hsz := szV_le most v.args[i] k hk0 k2
        refine rnd (m - 1) _ (by omega) (List.Sublist.refl _) ⟨i + 1, _, by simp, rfl, by omega, by omega, hsz.2, by rw [hw, szL_at most v.args i z6 k k2]⟩
      ·
        have k2 := bp h2
        refine AW.exit ?_
        repeat with_reducible refine thn_exit ?_
        refine inb_exit ?_
        refine AW.seq ?_
        refine AW.region ?_
        refine st V.move ?_
        refine st V.assign ?_
        refine sn ?_
        refine AW.ret ?_
        repeat with_reducible first | refine thn_ret ?_ | refine inb_ret ?_
        refine fin (Res.i1 rfl) ?_
        exact ⟨_, (by repeat first | exact List.Sublist.refl _ | apply List.Sublist.cons), by rw [hw, szL_stop _ _ _ (by omega)], rfl⟩
    ·
      have k1 := bp h1
      refine off rfl h1 ?_
      refine off rfl h1 ?_
      refine st (V.pF h1) ?_
      refine sn ?_
      refine cond (fun h => by cases h) (fun _ => ?_)
      refine AW.exit ?_
      repeat with_reducible refine thn_exit ?_
      refine inb_exit ?_
      refine AW.seq ?_
      refine AW.region ?_
      refine st V.move ?_
      refine st V.assign ?_
      refine sn ?_
      refine AW.ret ?_
      repeat with_reducible first | refine thn_ret ?_ | refine inb_ret ?_
      refine fin (Res.i1 rfl) ?_
      exact ⟨_, (by repeat first | exact List.Sublist.refl _ | apply List.Sublist.cons), by rw [hw, (List.drop_eq_nil_of_le (by omega) : v.args.drop i = []), szL], rfl⟩
set_option maxHeartbeats 1600000 in
set_option synthInstance.maxHeartbeats 400000 in
set_option synthInstance.maxSize 100000 in
set_option maxRecDepth 100000 in
theorem small_c (M : Mem) (H : Heap) (A : Option Addr) (c : Nat) (d : List DT) (hd : RdS 2 (RdD M) A c d) :
    AC Tryz.prog 22 [.slice A d.length c] M H fun v _ H' => v = .bool (tt (SmallP d)) ∧ H' = H := by
  refine AC.of (n := 67) Tryz.func22 rfl rfl ?_
  dsimp only [List.replicate, List.cons_append, List.nil_append]
  refine AW.seq ?_
  refine AW.region ?_
  refine st V.assign ?_
  refine sn ?_
  refine AW.seq ?_
  refine AW.seq ?_
  refine AW.region ?_
  refine st V.assign ?_
  refine sn ?_
  refine AW.block ?_
  refine AW.loopL [3] (2 :: 4 :: 5 :: 6 :: 7 :: 8 :: 9 :: 10 :: 11 :: 12 :: 13 :: 14 :: 15 :: 16 :: 17 :: 18 :: 19 :: 20 :: 21 :: 22 :: 23 :: 24 :: 25 :: 26 :: 27 :: 28 :: 29 :: 30 :: 31 :: 32 :: 33 :: 34 :: 35 :: 36 :: 37 :: 38 :: 39 :: 40 :: 41 :: 42 :: 43 :: 44 :: 45 :: 46 :: 47 :: 48 :: 49 :: 50 :: 51 :: 52 :: 53 :: 54 :: 55 :: 56 :: 57 :: 58 :: 59 :: 60 :: 61 :: 62 :: 63 :: 64 :: []) (fun n vs M' H' => ∃ i : Nat, vs = [.int .i64 (i : Int)] ∧ H' = H ∧ i + n = d.length ∧ (∀ k (h : k < d.length), k < i → d[k].name.size ≤ 40 ∧ d[k].cons.length ≤ 8 ∧ ∀ j (h' : j < d[k].cons.length), SmallC d[k].cons[j])) (d.length) (⟨0, rfl, rfl, by omega, fun k _ h => by omega⟩) ?_
  intro n Ml Hl iL u3 hI u2 u4 u5 u6 u7 u8 u9 u10 u11 u12 u13 u14 u15 u16 u17 u18 u19 u20 u21 u22 u23 u24 u25 u26 u27 u28 u29 u30 u31 u32 u33 u34 u35 u36 u37 u38 u39 u40 u41 u42 u43 u44 u45 u46 u47 u48 u49 u50 u51 u52 u53 u54 u55 u56 u57 u58 u59 u60 u61 u62 u63 u64
  obtain ⟨i, hv, hH, hi, hall⟩ := hI
  obtain rfl := hH.symm
  cases hv
  refine sa ?_
  refine AW.seq ?_
  refine AW.seq ?_
  have hbd := hd.bd
  refine AW.region ?_
  refine st V.move ?_
  refine st V.move ?_
  refine st V.len ?_
  refine st V.lss ?_
  refine st V.move ?_
  refine onoff false rfl rfl (fun h1 => ?_) (fun h1 => ?_)
  ·
    have k1 := bp h1
    refine st V.move ?_
    refine on rfl h1 ?_
    refine st V.lss ?_
    refine st (V.pT h1) ?_
    refine sn ?_
    refine cond (fun h2 => ?_) (fun h2 => ?_)
    ·
      have k2 := bp h2
      refine AW.skip ?_
      refine AW.seq ?_
      refine AW.block ?_
      refine AW.seq ?_
      refine AW.seq ?_
      have z4 : i < d.length := by omega
      obtain ⟨b8, o8, hA8, i0, ib0, A8, c8, i1, i2⟩ := (hd.upD (M' := Ml)).at i z4
      have hbd2 := i2.bd
      refine AW.region ?_
      refine st V.move ?_
      refine st V.move ?_
      refine st (V.ib i rfl z4 hA8) ?_
      refine st V.fa0 ?_
      first | refine st V.ld ?_ | refine sq V.lo ?_
      refine st V.lenS ?_
      refine st V.gtr ?_
      refine st V.move ?_
      refine onoff true rfl rfl (fun h3 => ?_) (fun h3 => ?_)
      ·
        have k3 := bp h3
        refine st V.move ?_
        refine on rfl h3 ?_
        refine st V.move ?_
        refine on rfl h3 ?_
        refine st (V.ib i rfl z4 hA8) ?_
        refine on rfl h3 ?_
        refine st V.fa ?_
        refine on rfl h3 ?_
        first | refine st V.ld ?_ | refine sq V.lo ?_
        refine on rfl h3 ?_
        refine st V.len ?_
        refine on rfl h3 ?_
        refine st V.gtr ?_
        refine st (V.pF h3) ?_
        refine sn ?_
        refine cond (fun h4 => ?_) (fun h4 => ?_)
        ·
          have k4 := bp h4
          refine AW.seq ?_
          refine AW.region ?_
          refine st V.assign ?_
          refine sn ?_
          refine AW.ret ?_
          repeat with_reducible first | refine thn_ret ?_ | refine inb_ret ?_
          refine fin (Res.i1 rfl) ?_
          exact ⟨_, (by repeat first | exact List.Sublist.refl _ | apply List.Sublist.cons), tt_f (fun a => by have q := a.2 i z4; omega), rfl⟩
        ·
          have k4 := bp h4
          refine AW.skip ?_
          refine AW.seq ?_
          refine AW.region ?_
          refine st V.assign ?_
          refine sn ?_
          refine AW.block ?_
          refine AW.loopL [4] (2 :: 31 :: 32 :: 33 :: 34 :: 35 :: 36 :: 37 :: 38 :: 39 :: 40 :: 41 :: 42 :: 43 :: 44 :: 45 :: 46 :: 47 :: 48 :: 49 :: 50 :: 51 :: 52 :: 53 :: 54 :: 55 :: 56 :: 57 :: 58 :: 59 :: 60 :: 61 :: 62 :: 63 :: 64 :: []) (fun n vs M' H' => ∃ j : Nat, vs = [.int .i64 (j : Int)] ∧ H' = H ∧ j + n = d[i].cons.length ∧ (∀ k (h : k < d[i].cons.length), k < j → SmallC d[i].cons[k])) (d[i].cons.length) (⟨0, rfl, rfl, by omega, fun k _ h => by omega⟩) ?_
          intro n1 Ml1 Hl1 iL1 u4 hI1 u2 u31 u32 u33 u34 u35 u36 u37 u38 u39 u40 u41 u42 u43 u44 u45 u46 u47 u48 u49 u50 u51 u52 u53 u54 u55 u56 u57 u58 u59 u60 u61 u62 u63 u64
          obtain ⟨j, hv, hH, hj, hall1⟩ := hI1
          obtain rfl := hH.symm
          cases hv
          refine sa ?_
          refine AW.seq ?_
          refine AW.seq ?_
          refine AW.region ?_
          refine st V.move ?_
          refine st V.move ?_
          refine st V.move ?_
          refine st (V.ib i rfl z4 hA8) ?_
          refine st V.fa ?_
          first | refine st V.ld ?_ | refine sq V.lo ?_
          refine st V.len ?_
          refine st V.lss ?_
          refine sn ?_
          refine cond (fun h5 => ?_) (fun h5 => ?_)
          ·
            have k5 := bp h5
            refine AW.skip ?_
            refine AW.seq ?_
            refine AW.block ?_
            refine AW.seq ?_
            have z7 : j < d[i].cons.length := by omega
            obtain ⟨b7, o7, hA7, j0, jb0, A7, c7, q1, q2⟩ := (i2.upC (M' := Ml1)).at j z7
            have hbd3 := q2.bd
            refine AW.region ?_
            refine st V.move ?_
            refine st V.move ?_
            refine st (V.ib i rfl z4 hA8) ?_
            refine st V.fa ?_
            first | refine st V.ld ?_ | refine sq V.lo ?_
            refine st V.move ?_
            refine st (V.ib j rfl z7 hA7) ?_
            refine st V.fa0 ?_
            first | refine st V.ld ?_ | refine sq V.lo ?_
            refine st V.lenS ?_
            refine st V.gtr ?_
            refine st V.move ?_
            refine onoff true rfl rfl (fun h6 => ?_) (fun h6 => ?_)
            ·
              have k6 := bp h6
              refine st V.move ?_
              refine on rfl h6 ?_
              refine st V.move ?_
              refine on rfl h6 ?_
              refine st (V.ib i rfl z4 hA8) ?_
              refine on rfl h6 ?_
              refine st V.fa ?_
              refine on rfl h6 ?_
              first | refine st V.ld ?_ | refine sq V.lo ?_
              refine on rfl h6 ?_
              refine st V.move ?_
              refine on rfl h6 ?_
              refine st (V.ib j rfl z7 hA7) ?_
              refine on rfl h6 ?_
              refine st V.fa ?_
              refine on rfl h6 ?_
              first | refine st V.ld ?_ | refine sq V.lo ?_
              refine on rfl h6 ?_
              refine st V.len ?_
              refine on rfl h6 ?_
              refine st V.gtr ?_
              refine st (V.pF h6) ?_
              refine sn ?_
              refine cond (fun h7 => ?_) (fun h7 => ?_)
              ·
                have k7 := bp h7
                refine AW.seq ?_
                refine AW.region ?_
                refine st V.assign ?_
                refine sn ?_
                refine AW.ret ?_
                repeat with_reducible first | refine thn_ret ?_ | refine inb_ret ?_
                refine fin (Res.i1 rfl) ?_
                exact ⟨_, (by repeat first | exact List.Sublist.refl _ | apply List.Sublist.cons), tt_f (fun a => by have q := (a.2 i z4).2.2 j z7; unfold SmallC at q; omega), rfl⟩
              ·
                have k7 := bp h7
                refine AW.skip ?_
                refine AW.region ?_
                refine st V.move ?_
                refine st (V.add64 (by omega)) ?_
                refine st V.assign ?_
                refine sn ?_
                repeat with_reducible refine inb_normal ?_
                refine thn_normal ?_
                refine rnd (n1 - 1) _ (by omega) (List.Sublist.refl _) ⟨j + 1, by simp, rfl, by omega, fun k hk hkj => ?_⟩
                rcases Nat.lt_or_ge k j with h | h
                · exact hall1 k hk h
                · obtain rfl : k = j := by omega
                  exact ⟨by omega, by omega⟩
            ·
              have k6 := bp h6
              refine off rfl h6 ?_
              refine off rfl h6 ?_
              refine off rfl h6 ?_
              refine off rfl h6 ?_
              refine off rfl h6 ?_
              refine off rfl h6 ?_
              refine off rfl h6 ?_
              refine off rfl h6 ?_
              refine off rfl h6 ?_
              refine off rfl h6 ?_
              refine st (V.pT h6) ?_
              refine sn ?_
              refine cond (fun _ => ?_) (fun h => by cases h)
              refine AW.seq ?_
              refine AW.region ?_
              refine st V.assign ?_
              refine sn ?_
              refine AW.ret ?_
              repeat with_reducible first | refine thn_ret ?_ | refine inb_ret ?_
              refine fin (Res.i1 rfl) ?_
              exact ⟨_, (by repeat first | exact List.Sublist.refl _ | apply List.Sublist.cons), tt_f (fun a => by have q := (a.2 i z4).2.2 j z7; unfold SmallC at q; omega), rfl⟩
          ·
            have k5 := bp h5
            refine AW.exit ?_
            repeat with_reducible refine thn_exit ?_
            refine inb_exit ?_
            refine AW.region ?_
            refine st V.move ?_
            refine st (V.add64 (by omega)) ?_
            refine st V.assign ?_
            refine sn ?_
            repeat with_reducible refine inb_normal ?_
            refine thn_normal ?_
            refine rnd (n - 1) _ (by omega) (List.Sublist.refl _) ⟨i + 1, by simp, rfl, by omega, fun k hk hki => ?_⟩
            rcases Nat.lt_or_ge k i with h | h
            · exact hall k hk h
            · obtain rfl : k = i := by omega
              exact ⟨by omega, by omega, fun j' hj' => hall1 j' hj' (by omega)⟩
      ·
        have k3 := bp h3
        refine off rfl h3 ?_
        refine off rfl h3 ?_
        refine off rfl h3 ?_
        refine off rfl h3 ?_
        refine off rfl h3 ?_
        refine off rfl h3 ?_
        refine st (V.pT h3) ?_
        refine sn ?_
        refine cond (fun _ => ?_) (fun h => by cases h)
        refine AW.seq ?_
        refine AW.region ?_
        refine st V.assign ?_
        refine sn ?_
        refine AW.ret ?_
        repeat with_reducible first | refine thn_ret ?_ | refine inb_ret ?_
        refine fin (Res.i1 rfl) ?_
        exact ⟨_, (by repeat first | exact List.Sublist.refl _ | apply List.Sublist.cons), tt_f (fun a => by have q := a.2 i z4; omega), rfl⟩
    ·
      have k2 := bp h2
      refine AW.exit ?_
      repeat with_reducible refine thn_exit ?_
      refine inb_exit ?_
      refine AW.seq ?_
      refine AW.region ?_
      refine st V.move ?_
      refine st V.len ?_
      refine st V.leq ?_
      refine st V.assign ?_
      refine sn ?_
      refine AW.ret ?_
      repeat with_reducible first | refine thn_ret ?_ | refine inb_ret ?_
      refine fin (Res.i1 rfl) ?_
      exact ⟨_, (by repeat first | exact List.Sublist.refl _ | apply List.Sublist.cons), tt_of ⟨fun h => by simp at h; omega, fun a => by have := a.1; omega⟩, rfl⟩
  ·
    have k1 := bp h1
    refine off rfl h1 ?_
    refine st (V.pF h1) ?_
    refine sn ?_
    refine cond (fun h => by cases h) (fun _ => ?_)
    refine AW.exit ?_
    repeat with_reducible refine thn_exit ?_
    refine inb_exit ?_
    refine AW.seq ?_
    refine AW.region ?_
    refine st V.move ?_
    refine st V.len ?_
    refine st V.leq ?_
    refine st V.assign ?_
    refine sn ?_
    refine AW.ret ?_
    repeat with_reducible first | refine thn_ret ?_ | refine inb_ret ?_
    refine fin (Res.i1 rfl) ?_
    exact ⟨_, (by repeat first | exact List.Sublist.refl _ | apply List.Sublist.cons), tt_of ⟨fun h => ⟨by simp at h; omega, fun k hk => hall k hk (by omega)⟩, fun a => by have := a.1; simp; omega⟩, rfl⟩
set_option maxHeartbeats 1600000 in
set_option synthInstance.maxHeartbeats 400000 in
set_option synthInstance.maxSize 100000 in
set_option maxRecDepth 100000 in
theorem few_c (M : Mem) (H : Heap) (A : Option Addr) (c : Nat) (d : List DT) (hd : RdS 2 (RdD M) A c d) (Av : Option Addr) (cv : Nat) (v : VT) (hv : VV M Av cv v) :
    AC Tryz.prog 11 [.slice A d.length c, .agg #[.int .i64 v.num, .int .i64 v.con, .slice Av v.args.length cv]] M H fun r _ H' => r = .bool (fewF d v) ∧ H' = H := by
  refine AC.of (n := 10) Tryz.func11 rfl rfl ?_
  dsimp only [List.replicate, List.cons_append, List.nil_append]
  refine AW.seq ?_
  refine AW.region ?_
  refine se (S.boxM ?_); intro b3 M3 i3 j3
  refine st V.assign ?_
  refine sn ?_
  refine AW.seq ?_
  refine AW.region ?_
  refine st V.move ?_
  refine se (S.call ?_)
  refine (small_c _ _ A c d hd.upD).use ?_
  rintro v N G iz ⟨rfl, hG⟩
  obtain rfl := hG.symm
  refine st V.move ?_
  refine onoff false rfl rfl (fun h1 => ?_) (fun h1 => ?_)
  ·
    have k1 := bp h1
    first | refine st V.ldA ?_ | refine sq V.loA ?_
    refine on rfl h1 ?_
    refine se (S.call ?_)
    refine (size_c (SizeOf.sizeOf v + 1) v (by omega) 0 60 (by omega) (by omega) (by omega) _ _ Av cv (VV.up hv)).use ?_
    rintro v N G iz ⟨rfl, hG⟩
    obtain rfl := hG.symm
    refine on rfl h1 ?_
    refine st V.leq ?_
    refine st (V.pT h1) ?_
    refine st V.assign ?_
    refine sn ?_
    refine AW.ret ?_
    repeat with_reducible first | refine thn_ret ?_ | refine inb_ret ?_
    refine fin (Res.i1 rfl) ?_
    exact ⟨_, (by repeat first | exact List.Sublist.refl _ | apply List.Sublist.cons), by rw [fewF, h1]; simp, rfl⟩
  ·
    have k1 := bp h1
    refine off rfl h1 ?_
    refine off rfl h1 ?_
    refine st (V.pF h1) ?_
    refine st V.assign ?_
    refine sn ?_
    refine AW.ret ?_
    repeat with_reducible first | refine thn_ret ?_ | refine inb_ret ?_
    refine fin (Res.i1 rfl) ?_
    exact ⟨_, (by repeat first | exact List.Sublist.refl _ | apply List.Sublist.cons), by rw [fewF, h1]; simp, rfl⟩
set_option maxHeartbeats 1600000 in
set_option synthInstance.maxHeartbeats 400000 in
set_option synthInstance.maxSize 100000 in
set_option maxRecDepth 100000 in
theorem lists_c (M : Mem) (H : Heap) :
    AC Tryz.prog 31 [] M H fun v M' H' => ∃ A c, v = .slice A listsD.length c ∧ RdS 2 (RdD M') A c listsD ∧ H' = H := by
  refine AC.of (n := 11) Tryz.func31 rfl rfl ?_
  dsimp only [List.replicate, List.cons_append, List.nil_append]
  refine AW.seq ?_
  refine AW.region ?_
  refine st V.assign ?_
  refine sn ?_
  refine AW.seq ?_
  refine AW.region ?_
  refine st (V.build (cells := [.string sFalse, .slice none 0 0]) rfl) ?_
  refine st (V.build (cells := [.string sTrue, .slice none 0 0]) rfl) ?_
  refine se (S.lit2 (by rfl) (by rfl) (by decide) ?_); intro g3
  refine st (V.build (cells := [.string sBool, .slice (some ⟨g3, 0, none⟩) 2 2]) rfl) ?_
  refine st (V.build (cells := [.string sNil, .slice none 0 0]) rfl) ?_
  refine se (S.lit2 (by rfl) (by rfl) (by decide) ?_); intro g6
  refine st (V.build (cells := [.string sCons, .slice (some ⟨g6, 0, none⟩) 2 2]) rfl) ?_
  refine se (S.lit2 (by rfl) (by rfl) (by decide) ?_); intro g8
  refine st (V.build (cells := [.string sList, .slice (some ⟨g8, 0, none⟩) 2 2]) rfl) ?_
  refine se (S.lit2 (by rfl) (by rfl) (by decide) ?_); intro g10
  refine st V.assign ?_
  refine AO.fz 0 fun Ma ia ja => ?_
  refine AO.fz 0 fun Mb ib jb => ?_
  refine AO.fz 0 fun Mc ic jc => ?_
  refine AO.fz 0 fun Md id jd => ?_
  refine sn ?_
  refine AW.ret ?_
  repeat with_reducible first | refine thn_ret ?_ | refine inb_ret ?_
  refine fin (Res.i1 rfl) ?_
  refine ⟨_, List.Sublist.refl _, some ⟨g10, 0, none⟩, 2, rfl, lists_rd inferInstance inferInstance inferInstance inferInstance, rfl⟩
end Go.Proofs.YtieaiheejhmbfaaGreatDoor.ML
