/- Walks of functions of the program, in the abstract layer. No conditions. -/
import Derived.Test.YtieaiheejhmbfaaGreatDoorPk7
import Derived.Test.YtieaiheejhmbfaaGreatDoorPk4
import Derived.Test.YtieaiheejhmbfaaGreatDoorPk5
namespace Go.Proofs.YtieaiheejhmbfaaGreatDoor.ML
open Go.RowKit
set_option linter.unusedVariables false
set_option linter.unusedSimpArgs false
set_option maxHeartbeats 1600000 in
set_option synthInstance.maxHeartbeats 400000 in
set_option synthInstance.maxSize 100000 in
set_option maxRecDepth 100000 in
theorem walk1_c {σ : Type} (d : List DT) (hT : TypedP d) (f : σ → Int → Int → σ) (J : σ → Heap) (g : Nat) [Fn Tryz.prog g] (caps : List Value) : ∀ (z : Nat) (t : Int) (v : VT), SizeOf.sizeOf v < z → 0 ≤ t ∧ t ≤ d.length → ∀ (n : Nat), n ≤ 65536 → ∀ (s : σ) (M : Mem) (bq bd bc bv : Nat) (Ad : Option Addr) (cd : Nat) (A : Option Addr) (c : Nat),
    Mb M bq [.func (.func g) #[] caps.toArray] → Mb M bd [.slice Ad d.length cd] → Mb M bv [.func (.func 68) #[] #[.pointer (some ⟨bq, 0, none⟩), .pointer (some ⟨bd, 0, none⟩), .pointer (some ⟨bc, 0, none⟩), .pointer (some ⟨bv, 0, none⟩)]] → RdS 2 (RdD M) Ad cd d → VV M A c v →
    (∀ (M' : Mem) [LeT M M'] (E : Heap) (s : σ) (t con : Int), AC Tryz.prog g (.int .i64 t :: .int .i64 con :: caps) M' (E ++ J s) fun v _ H' => v = .tuple #[] ∧ H' = E ++ J (f s t con)) →
    AC Tryz.prog 68 [.int .i64 t, .agg #[.int .i64 v.num, .int .i64 v.con, .slice A v.args.length c], .pointer (some ⟨bq, 0, none⟩), .pointer (some ⟨bd, 0, none⟩), .pointer (some ⟨bc, 0, none⟩), .pointer (some ⟨bv, 0, none⟩)] M (.blk bc (.cells #[.int .i64 n] 3 (0, 0)) :: J s)
      fun r _ H' => r = .int .i64 (wV d f t v n s).1 ∧ H' = .blk bc (.cells #[.int .i64 (wV d f t v n s).2.1] 3 (0, 0)) :: J (wV d f t v n s).2.2
  | 0, _, _, hz, _, _, _ => by omega
  | z + 1, t, v, hz, ht, n, hn => by
    intro s M bq bd bc bv Ad cd A c q1 q2 q3 hd hv hp
    have hbd := hd.bd
    have hba : v.args.length ≤ 140737488355328 := RdS.bd hv
    refine AC.of (n := 92) Tryz.func68 rfl rfl ?_
    dsimp only [List.replicate, List.cons_append, List.nil_append]
    refine AW.seq ?_
    refine AW.region ?_
    refine se (S.boxM ?_); intro b7 M7 i7 j7
    refine st V.assign ?_
    refine sn ?_
    refine AW.seq ?_
    refine AW.seq ?_
    refine AW.region ?_
    refine st V.move ?_
    refine st V.eql ?_
    refine sn ?_
    refine cond (fun h1 => ?_) (fun h1 => ?_)
    ·
      have k1 := bp h1
      refine AW.seq ?_
      refine AW.seq ?_
      refine AW.region ?_
      refine st V.faz ?_
      first | refine st V.ld ?_ | refine sq V.lo ?_
      refine st V.neq ?_
      refine st V.move ?_
      refine onoff true rfl rfl (fun h2 => ?_) (fun h2 => ?_)
      ·
        have k2 := bp h2
        refine st V.faz ?_
        refine on rfl h2 ?_
        first | refine st V.ld ?_ | refine sq V.lo ?_
        refine on rfl h2 ?_
        refine st V.len ?_
        refine on rfl h2 ?_
        refine st V.gtr ?_
        refine st (V.pF h2) ?_
        refine sn ?_
        refine cond (fun h3 => ?_) (fun h3 => ?_)
        ·
          have k3 := bp h3
          refine AW.seq ?_
          refine AW.region ?_
          refine st V.assign ?_
          refine sn ?_
          refine AW.ret ?_
          repeat with_reducible first | refine thn_ret ?_ | refine inb_ret ?_
          refine fin (Res.i1 rfl) ?_
          refine ⟨_, List.Sublist.refl _, ?_⟩
          first
            | (have hw : wV d f t v n s = (10, n, s) := by rw [wV_eq, if_pos (by unfold badV; rw [if_pos k1, decide_eq_true_eq]; omega)]
               rw [hw]; exact ⟨rfl, rfl⟩)
            | (have hw : wV d f t v n s = (0, n, f s t 0) := by rw [wV_eq, if_neg (by unfold badV; rw [if_pos k1, decide_eq_true_eq]; omega), if_pos k1]
               rw [hw]; exact ⟨rfl, rfl⟩)
            | (have hw : wV d f ((p : Int) + 1) v n s = (10, n, s) := by rw [wV_eq, if_pos (by rw [badV_at d p hp0, decide_eq_true_eq]; omega)]
               rw [hw]; exact ⟨rfl, rfl⟩)
            | (have hw : wV d f ((p : Int) + 1) v n s = (18, n, s) := by rw [wV_eq, hnb, if_neg (by decide), if_neg (by omega), if_pos (by omega)]
               rw [hw]; exact ⟨rfl, rfl⟩)
            | (rw [hw, wL_at d f _ _ _ _ i z6 z7, if_pos ‹_›]; exact ⟨rfl, rfl⟩)
            | (rw [hw, (List.drop_eq_nil_of_le (by omega) : v.args.drop i = []), wL_nil]; exact ⟨rfl, rfl⟩)
        ·
          have k3 := bp h3
          refine AW.skip ?_
          refine AW.seq ?_
          refine AW.region ?_
          first | refine st V.ld ?_ | refine sq V.lo ?_
          refine st V.move ?_
          refine se (S.call ?_)
          refine (hp _ [_] s t 0).use ?_
          rintro v N G iz ⟨rfl, hG⟩
          simp only [List.cons_append, List.nil_append] at hG
          subst hG
          refine sn ?_
          refine AW.seq ?_
          refine AW.region ?_
          refine st V.assign ?_
          refine sn ?_
          refine AW.ret ?_
          repeat with_reducible first | refine thn_ret ?_ | refine inb_ret ?_
          refine fin (Res.i1 rfl) ?_
          refine ⟨_, List.Sublist.refl _, ?_⟩
          first
            | (have hw : wV d f t v n s = (10, n, s) := by rw [wV_eq, if_pos (by unfold badV; rw [if_pos k1, decide_eq_true_eq]; omega)]
               rw [hw]; exact ⟨rfl, rfl⟩)
            | (have hw : wV d f t v n s = (0, n, f s t 0) := by rw [wV_eq, if_neg (by unfold badV; rw [if_pos k1, decide_eq_true_eq]; omega), if_pos k1]
               rw [hw]; exact ⟨rfl, rfl⟩)
            | (have hw : wV d f ((p : Int) + 1) v n s = (10, n, s) := by rw [wV_eq, if_pos (by rw [badV_at d p hp0, decide_eq_true_eq]; omega)]
               rw [hw]; exact ⟨rfl, rfl⟩)
            | (have hw : wV d f ((p : Int) + 1) v n s = (18, n, s) := by rw [wV_eq, hnb, if_neg (by decide), if_neg (by omega), if_pos (by omega)]
               rw [hw]; exact ⟨rfl, rfl⟩)
            | (rw [hw, wL_at d f _ _ _ _ i z6 z7, if_pos ‹_›]; exact ⟨rfl, rfl⟩)
            | (rw [hw, (List.drop_eq_nil_of_le (by omega) : v.args.drop i = []), wL_nil]; exact ⟨rfl, rfl⟩)
      ·
        have k2 := bp h2
        refine off rfl h2 ?_
        refine off rfl h2 ?_
        refine off rfl h2 ?_
        refine st (V.pT h2) ?_
        refine sn ?_
        refine cond (fun _ => ?_) (fun h => by cases h)
        refine AW.seq ?_
        refine AW.region ?_
        refine st V.assign ?_
        refine sn ?_
        refine AW.ret ?_
        repeat with_reducible first | refine thn_ret ?_ | refine inb_ret ?_
        refine fin (Res.i1 rfl) ?_
        refine ⟨_, List.Sublist.refl _, ?_⟩
        first
          | (have hw : wV d f t v n s = (10, n, s) := by rw [wV_eq, if_pos (by unfold badV; rw [if_pos k1, decide_eq_true_eq]; omega)]
             rw [hw]; exact ⟨rfl, rfl⟩)
          | (have hw : wV d f t v n s = (0, n, f s t 0) := by rw [wV_eq, if_neg (by unfold badV; rw [if_pos k1, decide_eq_true_eq]; omega), if_pos k1]
             rw [hw]; exact ⟨rfl, rfl⟩)
          | (have hw : wV d f ((p : Int) + 1) v n s = (10, n, s) := by rw [wV_eq, if_pos (by rw [badV_at d p hp0, decide_eq_true_eq]; omega)]
             rw [hw]; exact ⟨rfl, rfl⟩)
          | (have hw : wV d f ((p : Int) + 1) v n s = (18, n, s) := by rw [wV_eq, hnb, if_neg (by decide), if_neg (by omega), if_pos (by omega)]
             rw [hw]; exact ⟨rfl, rfl⟩)
          | (rw [hw, wL_at d f _ _ _ _ i z6 z7, if_pos ‹_›]; exact ⟨rfl, rfl⟩)
          | (rw [hw, (List.drop_eq_nil_of_le (by omega) : v.args.drop i = []), wL_nil]; exact ⟨rfl, rfl⟩)
    ·
      have k1 := bp h1
      obtain ⟨p, rfl⟩ : ∃ p : Nat, t = (p : Int) + 1 := ⟨(t - 1).toNat, by omega⟩
      have hp0 : p < d.length := by omega
      obtain ⟨b8, o8, hA8, i0, ib0, A8, c8, i1, i2⟩ := (hd.upD (M' := M7)).at p hp0
      have hb8 := i2.bd
      refine AW.skip ?_
      refine AW.seq ?_
      refine AW.region ?_
      first | refine st V.ld ?_ | refine sq V.lo ?_
      refine st V.move ?_
      refine st (V.sub64 (by omega)) ?_
      refine st (V.ib p (by omega) hp0 hA8) ?_
      refine st V.fa ?_
      first | refine st V.ld ?_ | refine sq V.lo ?_
      refine st V.assign ?_
      refine sn ?_
      refine AW.seq ?_
      refine AW.seq ?_
      refine AW.regionD mx false [0, 1, 2, 3, 4, 5, 6, 7, 8, 9, 10, 11, 12, 13, 14, 15, 16, 17, 18, 19, 20, 21, 22, 23, 24, 25, 26, 27] [[], [0], [0, 1], [0, 1, 2], [0, 1, 2, 3], [0, 1, 2, 3, 4], [0, 1, 2, 3, 4, 5], [0, 1, 2, 3, 4, 5, 6], [0, 1, 2, 3, 4, 5, 6, 7], [0, 1, 2, 3, 4, 5, 6, 7, 8], [0, 1, 2, 3, 4, 5, 6, 7, 8, 9], [0, 1, 2, 3, 4, 5, 6, 7, 8], [0, 1, 2, 3, 4, 5, 6, 7, 8, 11], [0, 1, 2, 3, 4, 5, 6, 7, 8, 9, 10, 11, 12], [0, 1, 2, 3, 4, 5, 6, 7, 8, 9, 10, 11, 12, 13], [0, 1, 2, 3, 4, 5, 6, 7, 8, 9, 10, 11, 12, 13, 14], [0, 1, 2, 3, 4, 5, 6, 7, 8, 9, 10, 11, 12, 13, 14, 15], [0, 1, 2, 3, 4, 5, 6, 7, 8, 9, 10, 11, 12, 13, 14, 15, 16], [0, 1, 2, 3, 4, 5, 6, 7, 8, 9, 10, 11, 12, 13, 14, 15, 16, 17], [0, 1, 2, 3, 4, 5, 6, 7, 8, 9, 10, 11, 12, 13, 14, 15], [0, 1, 2, 3, 4, 5, 6, 7, 8, 9, 10, 11, 12, 13, 14, 15], [0, 1, 2, 3, 4, 5, 6, 7, 8, 9, 10, 11, 12, 13, 14, 15, 20], [0, 1, 2, 3, 4, 5, 6, 7, 8, 9, 10, 11, 12, 13, 14, 15, 19, 20, 21], [0, 1, 2, 3, 4, 5, 6, 7, 8, 9, 10, 11, 12, 13, 14, 15, 19, 20, 21, 22], [0, 1, 2, 3, 4, 5, 6, 7, 8, 9, 10, 11, 12, 13, 14, 15, 19, 20, 21, 22, 23], [0, 1, 2, 3, 4, 5, 6, 7, 8, 9, 10, 11, 12, 13, 14, 15, 19, 20, 21, 22, 23, 24], [0, 1, 2, 3, 4, 5, 6, 7, 8, 9, 10, 11, 12, 13, 14, 15, 16, 17, 18, 19, 20, 21, 22, 23, 24, 25], [0, 1, 2, 3, 4, 5, 6, 7, 8, 9, 10, 11, 12, 13, 14, 15, 16, 17, 18, 19, 20, 21, 22, 23, 24, 25, 26]] (by kernel_rfl) ?_
      refine D.p rfl rfl V.fa0 ?_
      first | refine D.p rfl rfl V.ld ?_ | refine D.q rfl rfl V.lo ?_
      refine D.p rfl rfl V.neq ?_
      refine D.p rfl rfl V.move ?_
      refine D.onoff false true rfl 36 (fun h5 => ?_) (fun h5 => ?_)
      ·
        have k5 := bp h5
        refine D.pOn rfl rfl h5 rfl V.faz ?_
        first | refine D.pOn rfl rfl h5 rfl V.ld ?_ | refine D.qOn rfl rfl h5 rfl V.lo ?_
        refine D.pOn rfl rfl h5 rfl V.lss ?_
        refine D.p rfl rfl (V.pF h5) ?_
        refine D.p rfl rfl V.move ?_
        refine D.onoff false true rfl 41 (fun h6 => ?_) (fun h6 => ?_)
        ·
          have k6 := bp h6
          refine D.pOn rfl rfl h6 rfl V.faz ?_
          first | refine D.pOn rfl rfl h6 rfl V.ld ?_ | refine D.qOn rfl rfl h6 rfl V.lo ?_
          refine D.pOn rfl rfl h6 rfl V.move ?_
          refine D.pOn rfl rfl h6 rfl V.len ?_
          refine D.pOn rfl rfl h6 rfl V.geq ?_
          refine D.p rfl rfl (V.pF h6) ?_
          refine D.p rfl rfl V.move ?_
          refine D.onoff false true rfl 48 (fun h7 => ?_) (fun h7 => ?_)
          ·
            have k7 := bp h7
            obtain ⟨k, hk⟩ : ∃ k : Nat, v.con = (k : Int) := ⟨v.con.toNat, by omega⟩
            have hk' : k < d[p].cons.length := by omega
            obtain ⟨b9, o9, hA9, e0, eb, A9, c9, e1, e2⟩ := i2.at k hk'
            have hb9 := e2.bd
            have hg : (d[p].cons.getD v.con.toNat ⟨⟨#[]⟩, []⟩).fields.length = d[p].cons[k].fields.length := by rw [hk]; simp [List.getD, hk']
            refine D.pOn rfl rfl h7 rfl V.faz ?_
            first | refine D.pOn rfl rfl h7 rfl V.ld ?_ | refine D.qOn rfl rfl h7 rfl V.lo ?_
            refine D.pOn rfl rfl h7 rfl V.len ?_
            refine D.pOn rfl rfl h7 rfl V.move ?_
            refine D.pOn rfl rfl h7 rfl V.faz ?_
            first | refine D.pOn rfl rfl h7 rfl V.ld ?_ | refine D.qOn rfl rfl h7 rfl V.lo ?_
            refine D.pOn rfl rfl h7 rfl (V.ib k hk hk' hA9) ?_
            refine D.pOn rfl rfl h7 rfl V.fa ?_
            first | refine D.pOn rfl rfl h7 rfl V.ld ?_ | refine D.qOn rfl rfl h7 rfl V.lo ?_
            refine D.pOn rfl rfl h7 rfl V.len ?_
            refine D.pOn rfl rfl h7 rfl V.neq ?_
            refine D.p rfl rfl (V.pF h7) ?_
            refine D.nl ?_
            refine cond (fun h8 => ?_) (fun h8 => ?_)
            ·
              have k8 := bp h8
              refine AW.seq ?_
              refine AW.region ?_
              refine st V.assign ?_
              refine sn ?_
              refine AW.ret ?_
              repeat with_reducible first | refine thn_ret ?_ | refine inb_ret ?_
              refine fin (Res.i1 rfl) ?_
              refine ⟨_, List.Sublist.refl _, ?_⟩
              first
                | (have hw : wV d f t v n s = (10, n, s) := by rw [wV_eq, if_pos (by unfold badV; rw [if_pos k1, decide_eq_true_eq]; omega)]
                   rw [hw]; exact ⟨rfl, rfl⟩)
                | (have hw : wV d f t v n s = (0, n, f s t 0) := by rw [wV_eq, if_neg (by unfold badV; rw [if_pos k1, decide_eq_true_eq]; omega), if_pos k1]
                   rw [hw]; exact ⟨rfl, rfl⟩)
                | (have hw : wV d f ((p : Int) + 1) v n s = (10, n, s) := by rw [wV_eq, if_pos (by rw [badV_at d p hp0, decide_eq_true_eq]; omega)]
                   rw [hw]; exact ⟨rfl, rfl⟩)
                | (have hw : wV d f ((p : Int) + 1) v n s = (18, n, s) := by rw [wV_eq, hnb, if_neg (by decide), if_neg (by omega), if_pos (by omega)]
                   rw [hw]; exact ⟨rfl, rfl⟩)
                | (rw [hw, wL_at d f _ _ _ _ i z6 z7, if_pos ‹_›]; exact ⟨rfl, rfl⟩)
                | (rw [hw, (List.drop_eq_nil_of_le (by omega) : v.args.drop i = []), wL_nil]; exact ⟨rfl, rfl⟩)
            ·
              have k8 := bp h8
              refine AW.skip ?_
              refine AW.seq ?_
              refine AW.seq ?_
              have hnb : badV d ((p : Int) + 1) v = false := by rw [badV_at d p hp0, decide_eq_false_iff_not]; omega
              refine AW.region ?_
              refine st V.faz ?_
              first | refine st V.ld ?_ | refine sq V.lo ?_
              refine st V.len ?_
              refine st V.gtr ?_
              refine sn ?_
              refine cond (fun h9 => ?_) (fun h9 => ?_)
              ·
                have k9 := bp h9
                refine AW.seq ?_
                refine AW.seq ?_
                refine AW.region ?_
                first | refine st V.ld ?_ | refine sq V.lo ?_
                refine st V.eql ?_
                refine sn ?_
                refine cond (fun h10 => ?_) (fun h10 => ?_)
                ·
                  have k10 := bp h10
                  refine AW.seq ?_
                  refine AW.region ?_
                  refine st V.assign ?_
                  refine sn ?_
                  refine AW.ret ?_
                  repeat with_reducible first | refine thn_ret ?_ | refine inb_ret ?_
                  refine fin (Res.i1 rfl) ?_
                  refine ⟨_, List.Sublist.refl _, ?_⟩
                  first
                    | (have hw : wV d f t v n s = (10, n, s) := by rw [wV_eq, if_pos (by unfold badV; rw [if_pos k1, decide_eq_true_eq]; omega)]
                       rw [hw]; exact ⟨rfl, rfl⟩)
                    | (have hw : wV d f t v n s = (0, n, f s t 0) := by rw [wV_eq, if_neg (by unfold badV; rw [if_pos k1, decide_eq_true_eq]; omega), if_pos k1]
                       rw [hw]; exact ⟨rfl, rfl⟩)
                    | (have hw : wV d f ((p : Int) + 1) v n s = (10, n, s) := by rw [wV_eq, if_pos (by rw [badV_at d p hp0, decide_eq_true_eq]; omega)]
                       rw [hw]; exact ⟨rfl, rfl⟩)
                    | (have hw : wV d f ((p : Int) + 1) v n s = (18, n, s) := by rw [wV_eq, hnb, if_neg (by decide), if_neg (by omega), if_pos (by omega)]
                       rw [hw]; exact ⟨rfl, rfl⟩)
                    | (rw [hw, wL_at d f _ _ _ _ i z6 z7, if_pos ‹_›]; exact ⟨rfl, rfl⟩)
                    | (rw [hw, (List.drop_eq_nil_of_le (by omega) : v.args.drop i = []), wL_nil]; exact ⟨rfl, rfl⟩)
                ·
                  have k10 := bp h10
                  refine AW.skip ?_
                  refine AW.region ?_
                  first | refine st V.ld ?_ | refine sq V.lo ?_
                  refine st (V.add64 (by omega)) ?_
                  refine se (S.store ?_)
                  refine sn ?_
                  refine AW.seq ?_
                  refine AW.region ?_
                  first | refine st V.ld ?_ | refine sq V.lo ?_
                  refine st V.move ?_
                  refine st V.faz ?_
                  first | refine st V.ld ?_ | refine sq V.lo ?_
                  refine se (S.call ?_)
                  refine (hp _ [_] s _ v.con).use ?_
                  rintro v N G iz ⟨rfl, hG⟩
                  simp only [List.cons_append, List.nil_append] at hG
                  subst hG
                  refine sn ?_
                  refine AW.seq ?_
                  refine AW.seq ?_
                  refine AW.region ?_
                  refine st V.faz ?_
                  first | refine st V.ld ?_ | refine sq V.lo ?_
                  refine st V.len ?_
                  refine st V.move ?_
                  refine sn ?_
                  refine AW.block ?_
                  refine AW.loopL [77] (8 :: 10 :: 11 :: 12 :: 78 :: 79 :: 80 :: 81 :: 82 :: 83 :: 84 :: 85 :: 86 :: 87 :: 88 :: 89 :: 90 :: 91 :: 92 :: 93 :: 94 :: 95 :: 96 :: 97 :: []) (fun m vs M' H' => ∃ (i n1 : Nat) (s1 : σ), vs = [.int .i64 (i : Int)] ∧ H' = .blk bc (.cells #[.int .i64 n1] 3 (0, 0)) :: J s1 ∧ i + m = v.args.length ∧ n1 ≤ 65536 ∧ wV d f ((p : Int) + 1) v n s = wL d f (d[p].cons[k].fields.drop i) (v.args.drop i) n1 s1) (v.args.length) ((by first | exact ⟨0, n + 1, f s ((p : Int) + 1) v.con, rfl, by simp, by omega, by omega, by rw [wV_eq, hnb, if_neg (by decide), if_neg (by omega), if_neg (by omega), if_pos (by omega), fldV_at d p hp0 v k hk hk']; rfl⟩ | exact ⟨0, n, f s ((p : Int) + 1) v.con, rfl, rfl, by omega, by omega, by rw [wV_eq, hnb, if_neg (by decide), if_neg (by omega), if_neg (by omega), if_neg (by omega), fldV_at d p hp0 v k hk hk']; rfl⟩)) ?_
                  intro m Ml Hl iL u77 hI u8 u10 u11 u12 u78 u79 u80 u81 u82 u83 u84 u85 u86 u87 u88 u89 u90 u91 u92 u93 u94 u95 u96 u97
                  obtain ⟨i, n1, s1, hv', hH, hi, hn1, hw⟩ := hI
                  subst hH
                  cases hv'
                  refine sa ?_
                  refine AW.seq ?_
                  refine AW.region ?_
                  refine st V.lss ?_
                  refine sn ?_
                  refine AW.seq ?_
                  refine cond (fun h11 => ?_) (fun h11 => ?_)
                  ·
                    have k11 := bp h11
                    refine AW.skip ?_
                    refine AW.seq ?_
                    refine AW.block ?_
                    refine AW.seq ?_
                    have z6 : i < v.args.length := by omega
                    have z7 : i < d[p].cons[k].fields.length := by omega
                    obtain ⟨ba, oa, hAa, ea⟩ := (VV.up (M' := Ml) hv).at i z6
                    obtain ⟨Ax, cx, x0, x1, x2, xs⟩ := ea.get
                    refine AW.region ?_
                    refine st V.move ?_
                    refine st (V.ib i rfl z6 hAa) ?_
                    first | refine st V.ldA ?_ | refine sq V.loA ?_
                    refine se (S.alloc ?_); intro b11
                    refine st V.assign ?_
                    refine se (S.storeA rfl ?_)
                    refine sn ?_
                    refine AW.seq ?_
                    refine AW.fz 0 fun Mv iv jv => ?_
                    obtain ⟨b5, o5, hA5, e5⟩ := (e2.upI (M' := Mv)).at i z7
                    have e5 : Mk Mv b5 (o5 + i * 1) (.int .i64 d[p].cons[k].fields[i]) := e5
                    refine AW.regionD mx true [0, 1, 2, 3, 4, 5, 6, 7, 8, 9, 10, 11, 12] [[], [], [], [2], [1, 2, 3], [1, 2, 3, 4], [1, 2, 3, 4, 5], [], [1, 2, 3, 4, 5, 6, 7], [1, 2, 3, 4, 5, 6, 7, 8], [], [0, 1, 2, 3, 4, 5, 6, 7, 8, 9, 10], [0, 1, 2, 3, 4, 5, 6, 7, 8, 9, 10, 11]] (by kernel_rfl) ?_
                    refine D.p rfl rfl V.ld ?_
                    refine D.p rfl rfl V.move ?_
                    refine D.p rfl rfl V.faz ?_
                    refine D.p rfl rfl V.ld ?_
                    refine D.p rfl rfl (V.ib k hk hk' hA9) ?_
                    refine D.p rfl rfl V.fa ?_
                    refine D.p rfl rfl V.ld ?_
                    refine D.p rfl rfl V.move ?_
                    refine D.p rfl rfl (V.ib i rfl z7 hA5) ?_
                    refine D.p rfl rfl V.ld ?_
                    refine D.p rfl rfl V.ldA ?_
                    refine D.e rfl rfl (S.call ?_)
                    refine (walk1_c d hT f J g caps z _ v.args[i] (by have := List.sizeOf_lt_of_mem (List.getElem_mem z6); cases v; simp [VT.args] at *; omega) (hT p hp0 k hk' _ (List.getElem_mem z7)) n1 hn1 s1 _ bq bd bc bv Ad cd Ax cx inferInstance inferInstance inferInstance hd.upD (VV.up (x := v.args[i]) xs) (fun M' q E s t con => @hp M' (LeT.tr (inferInstance : LeT M Mv) q) E s t con)).use ?_
                    rintro v' N G iz ⟨rfl, rfl⟩
                    refine D.p rfl rfl V.assign ?_
                    refine D.nl ?_
                    refine AW.seq ?_
                    refine AW.region ?_
                    refine st V.move ?_
                    refine st V.neq ?_
                    refine sn ?_
                    refine cond (fun h12 => ?_) (fun h12 => ?_)
                    ·
                      have k12 := bp h12
                      refine AW.seq ?_
                      refine AW.region ?_
                      refine st V.move ?_
                      refine st V.assign ?_
                      refine sn ?_
                      refine AW.ret ?_
                      repeat with_reducible first | refine thn_ret ?_ | refine inb_ret ?_
                      refine fin (Res.i1 rfl) ?_
                      refine ⟨_, List.Sublist.refl _, ?_⟩
                      first
                        | (have hw : wV d f t v n s = (10, n, s) := by rw [wV_eq, if_pos (by unfold badV; rw [if_pos k1, decide_eq_true_eq]; omega)]
                           rw [hw]; exact ⟨rfl, rfl⟩)
                        | (have hw : wV d f t v n s = (0, n, f s t 0) := by rw [wV_eq, if_neg (by unfold badV; rw [if_pos k1, decide_eq_true_eq]; omega), if_pos k1]
                           rw [hw]; exact ⟨rfl, rfl⟩)
                        | (have hw : wV d f ((p : Int) + 1) v n s = (10, n, s) := by rw [wV_eq, if_pos (by rw [badV_at d p hp0, decide_eq_true_eq]; omega)]
                           rw [hw]; exact ⟨rfl, rfl⟩)
                        | (have hw : wV d f ((p : Int) + 1) v n s = (18, n, s) := by rw [wV_eq, hnb, if_neg (by decide), if_neg (by omega), if_pos (by omega)]
                           rw [hw]; exact ⟨rfl, rfl⟩)
                        | (rw [hw, wL_at d f _ _ _ _ i z6 z7, if_pos ‹_›]; exact ⟨rfl, rfl⟩)
                        | (rw [hw, (List.drop_eq_nil_of_le (by omega) : v.args.drop i = []), wL_nil]; exact ⟨rfl, rfl⟩)
                    ·
                      have k12 := bp h12
                      refine AW.skip ?_
                      refine AW.region ?_
                      refine st (V.add64 (by omega)) ?_
                      refine st V.move ?_
                      refine sn ?_
                      repeat with_reducible refine inb_normal ?_
                      refine thn_normal ?_
                      refine rnd (m - 1) _ (by omega) (List.Sublist.refl _) ⟨i + 1, _, _, by simp, rfl, by omega, wV_le d f _ _ _ _ hn1, ?_⟩
                      rw [hw, wL_at d f _ _ _ _ i z6 z7, if_neg (fun h => h ‹_›)]
                  ·
                    have k11 := bp h11
                    refine AW.exit ?_
                    repeat with_reducible refine thn_exit ?_
                    refine inb_exit ?_
                    refine AW.seq ?_
                    refine AW.region ?_
                    refine st V.assign ?_
                    refine sn ?_
                    refine AW.ret ?_
                    repeat with_reducible first | refine thn_ret ?_ | refine inb_ret ?_
                    refine fin (Res.i1 rfl) ?_
                    refine ⟨_, List.Sublist.refl _, ?_⟩
                    first
                      | (have hw : wV d f t v n s = (10, n, s) := by rw [wV_eq, if_pos (by unfold badV; rw [if_pos k1, decide_eq_true_eq]; omega)]
                         rw [hw]; exact ⟨rfl, rfl⟩)
                      | (have hw : wV d f t v n s = (0, n, f s t 0) := by rw [wV_eq, if_neg (by unfold badV; rw [if_pos k1, decide_eq_true_eq]; omega), if_pos k1]
                         rw [hw]; exact ⟨rfl, rfl⟩)
                      | (have hw : wV d f ((p : Int) + 1) v n s = (10, n, s) := by rw [wV_eq, if_pos (by rw [badV_at d p hp0, decide_eq_true_eq]; omega)]
                         rw [hw]; exact ⟨rfl, rfl⟩)
                      | (have hw : wV d f ((p : Int) + 1) v n s = (18, n, s) := by rw [wV_eq, hnb, if_neg (by decide), if_neg (by omega), if_pos (by omega)]
                         rw [hw]; exact ⟨rfl, rfl⟩)
                      | (rw [hw, wL_at d f _ _ _ _ i z6 z7, if_pos ‹_›]; exact ⟨rfl, rfl⟩)
                      | (rw [hw, (List.drop_eq_nil_of_le (by omega) : v.args.drop i = []), wL_nil]; exact ⟨rfl, rfl⟩)
              ·
                have k9 := bp h9
                refine AW.skip ?_
                refine AW.seq ?_
                refine AW.region ?_
                first | refine st V.ld ?_ | refine sq V.lo ?_
                refine st V.move ?_
                refine st V.faz ?_
                first | refine st V.ld ?_ | refine sq V.lo ?_
                refine se (S.call ?_)
                refine (hp _ [_] s _ v.con).use ?_
                rintro v N G iz ⟨rfl, hG⟩
                simp only [List.cons_append, List.nil_append] at hG
                subst hG
                refine sn ?_
                refine AW.seq ?_
                refine AW.seq ?_
                refine AW.region ?_
                refine st V.faz ?_
                first | refine st V.ld ?_ | refine sq V.lo ?_
                refine st V.len ?_
                refine st V.move ?_
                refine sn ?_
                refine AW.block ?_
                refine AW.loopL [77] (8 :: 10 :: 11 :: 12 :: 78 :: 79 :: 80 :: 81 :: 82 :: 83 :: 84 :: 85 :: 86 :: 87 :: 88 :: 89 :: 90 :: 91 :: 92 :: 93 :: 94 :: 95 :: 96 :: 97 :: []) (fun m vs M' H' => ∃ (i n1 : Nat) (s1 : σ), vs = [.int .i64 (i : Int)] ∧ H' = .blk bc (.cells #[.int .i64 n1] 3 (0, 0)) :: J s1 ∧ i + m = v.args.length ∧ n1 ≤ 65536 ∧ wV d f ((p : Int) + 1) v n s = wL d f (d[p].cons[k].fields.drop i) (v.args.drop i) n1 s1) (v.args.length) ((by first | exact ⟨0, n + 1, f s ((p : Int) + 1) v.con, rfl, by simp, by omega, by omega, by rw [wV_eq, hnb, if_neg (by decide), if_neg (by omega), if_neg (by omega), if_pos (by omega), fldV_at d p hp0 v k hk hk']; rfl⟩ | exact ⟨0, n, f s ((p : Int) + 1) v.con, rfl, rfl, by omega, by omega, by rw [wV_eq, hnb, if_neg (by decide), if_neg (by omega), if_neg (by omega), if_neg (by omega), fldV_at d p hp0 v k hk hk']; rfl⟩)) ?_
                intro m Ml Hl iL u77 hI u8 u10 u11 u12 u78 u79 u80 u81 u82 u83 u84 u85 u86 u87 u88 u89 u90 u91 u92 u93 u94 u95 u96 u97
                obtain ⟨i, n1, s1, hv', hH, hi, hn1, hw⟩ := hI
                subst hH
                cases hv'
                refine sa ?_
                refine AW.seq ?_
                refine AW.region ?_
                refine st V.lss ?_
                refine sn ?_
                refine AW.seq ?_
                refine cond (fun h13 => ?_) (fun h13 => ?_)
                ·
                  have k13 := bp h13
                  refine AW.skip ?_
                  refine AW.seq ?_
                  refine AW.block ?_
                  refine AW.seq ?_
                  have z6 : i < v.args.length := by omega
                  have z7 : i < d[p].cons[k].fields.length := by omega
                  obtain ⟨ba, oa, hAa, ea⟩ := (VV.up (M' := Ml) hv).at i z6
                  obtain ⟨Ax, cx, x0, x1, x2, xs⟩ := ea.get
                  refine AW.region ?_
                  refine st V.move ?_
                  refine st (V.ib i rfl z6 hAa) ?_
                  first | refine st V.ldA ?_ | refine sq V.loA ?_
                  refine se (S.alloc ?_); intro b11
                  refine st V.assign ?_
                  refine se (S.storeA rfl ?_)
                  refine sn ?_
                  refine AW.seq ?_
                  refine AW.fz 0 fun Mv iv jv => ?_
                  obtain ⟨b5, o5, hA5, e5⟩ := (e2.upI (M' := Mv)).at i z7
                  have e5 : Mk Mv b5 (o5 + i * 1) (.int .i64 d[p].cons[k].fields[i]) := e5
                  refine AW.regionD mx true [0, 1, 2, 3, 4, 5, 6, 7, 8, 9, 10, 11, 12] [[], [], [], [2], [1, 2, 3], [1, 2, 3, 4], [1, 2, 3, 4, 5], [], [1, 2, 3, 4, 5, 6, 7], [1, 2, 3, 4, 5, 6, 7, 8], [], [0, 1, 2, 3, 4, 5, 6, 7, 8, 9, 10], [0, 1, 2, 3, 4, 5, 6, 7, 8, 9, 10, 11]] (by kernel_rfl) ?_
                  refine D.p rfl rfl V.ld ?_
                  refine D.p rfl rfl V.move ?_
                  refine D.p rfl rfl V.faz ?_
                  refine D.p rfl rfl V.ld ?_
                  refine D.p rfl rfl (V.ib k hk hk' hA9) ?_
                  refine D.p rfl rfl V.fa ?_
                  refine D.p rfl rfl V.ld ?_
                  refine D.p rfl rfl V.move ?_
                  refine D.p rfl rfl (V.ib i rfl z7 hA5) ?_
                  refine D.p rfl rfl V.ld ?_
                  refine D.p rfl rfl V.ldA ?_
                  refine D.e rfl rfl (S.call ?_)
                  refine (walk1_c d hT f J g caps z _ v.args[i] (by have := List.sizeOf_lt_of_mem (List.getElem_mem z6); cases v; simp [VT.args] at *; omega) (hT p hp0 k hk' _ (List.getElem_mem z7)) n1 hn1 s1 _ bq bd bc bv Ad cd Ax cx inferInstance inferInstance inferInstance hd.upD (VV.up (x := v.args[i]) xs) (fun M' q E s t con => @hp M' (LeT.tr (inferInstance : LeT M Mv) q) E s t con)).use ?_
                  rintro v' N G iz ⟨rfl, rfl⟩
                  refine D.p rfl rfl V.assign ?_
                  refine D.nl ?_
                  refine AW.seq ?_
                  refine AW.region ?_
                  refine st V.move ?_
                  refine st V.neq ?_
                  refine sn ?_
                  refine cond (fun h14 => ?_) (fun h14 => ?_)
                  ·
                    have k14 := bp h14
                    refine AW.seq ?_
                    refine AW.region ?_
                    refine st V.move ?_
                    refine st V.assign ?_
                    refine sn ?_
                    refine AW.ret ?_
                    repeat with_reducible first | refine thn_ret ?_ | refine inb_ret ?_
                    refine fin (Res.i1 rfl) ?_
                    refine ⟨_, List.Sublist.refl _, ?_⟩
                    first
                      | (have hw : wV d f t v n s = (10, n, s) := by rw [wV_eq, if_pos (by unfold badV; rw [if_pos k1, decide_eq_true_eq]; omega)]
                         rw [hw]; exact ⟨rfl, rfl⟩)
                      | (have hw : wV d f t v n s = (0, n, f s t 0) := by rw [wV_eq, if_neg (by unfold badV; rw [if_pos k1, decide_eq_true_eq]; omega), if_pos k1]
                         rw [hw]; exact ⟨rfl, rfl⟩)
                      | (have hw : wV d f ((p : Int) + 1) v n s = (10, n, s) := by rw [wV_eq, if_pos (by rw [badV_at d p hp0, decide_eq_true_eq]; omega)]
                         rw [hw]; exact ⟨rfl, rfl⟩)
                      | (have hw : wV d f ((p : Int) + 1) v n s = (18, n, s) := by rw [wV_eq, hnb, if_neg (by decide), if_neg (by omega), if_pos (by omega)]
                         rw [hw]; exact ⟨rfl, rfl⟩)
                      | (rw [hw, wL_at d f _ _ _ _ i z6 z7, if_pos ‹_›]; exact ⟨rfl, rfl⟩)
                      | (rw [hw, (List.drop_eq_nil_of_le (by omega) : v.args.drop i = []), wL_nil]; exact ⟨rfl, rfl⟩)
                  ·
                    have k14 := bp h14
                    refine AW.skip ?_
                    refine AW.region ?_
                    refine st (V.add64 (by omega)) ?_
                    refine st V.move ?_
                    refine sn ?_
                    repeat with_reducible refine inb_normal ?_
                    refine thn_normal ?_
                    refine rnd (m - 1) _ (by omega) (List.Sublist.refl _) ⟨i + 1, _, _, by simp, rfl, by omega, wV_le d f _ _ _ _ hn1, ?_⟩
                    rw [hw, wL_at d f _ _ _ _ i z6 z7, if_neg (fun h => h ‹_›)]
                ·
                  have k13 := bp h13
                  refine AW.exit ?_
                  repeat with_reducible refine thn_exit ?_
                  refine inb_exit ?_
                  refine AW.seq ?_
                  refine AW.region ?_
                  refine st V.assign ?_
                  refine sn ?_
                  refine AW.ret ?_
                  repeat with_reducible first | refine thn_ret ?_ | refine inb_ret ?_
                  refine fin (Res.i1 rfl) ?_
                  refine ⟨_, List.Sublist.refl _, ?_⟩
                  first
                    | (have hw : wV d f t v n s = (10, n, s) := by rw [wV_eq, if_pos (by unfold badV; rw [if_pos k1, decide_eq_true_eq]; omega)]
                       rw [hw]; exact ⟨rfl, rfl⟩)
                    | (have hw : wV d f t v n s = (0, n, f s t 0) := by rw [wV_eq, if_neg (by unfold badV; rw [if_pos k1, decide_eq_true_eq]; omega), if_pos k1]
                       rw [hw]; exact ⟨rfl, rfl⟩)
                    | (have hw : wV d f ((p : Int) + 1) v n s = (10, n, s) := by rw [wV_eq, if_pos (by rw [badV_at d p hp0, decide_eq_true_eq]; omega)]
                       rw [hw]; exact ⟨rfl, rfl⟩)
                    | (have hw : wV d f ((p : Int) + 1) v n s = (18, n, s) := by rw [wV_eq, hnb, if_neg (by decide), if_neg (by omega), if_pos (by omega)]
                       rw [hw]; exact ⟨rfl, rfl⟩)
                    | (rw [hw, wL_at d f _ _ _ _ i z6 z7, if_pos ‹_›]; exact ⟨rfl, rfl⟩)
                    | (rw [hw, (List.drop_eq_nil_of_le (by omega) : v.args.drop i = []), wL_nil]; exact ⟨rfl, rfl⟩)
          ·
            have k7 := bp h7
            refine D.off rfl rfl (by rw [h7]; decide) ?_
            refine D.off rfl rfl (by rw [h7]; decide) ?_
            refine D.off rfl rfl (by rw [h7]; decide) ?_
            refine D.off rfl rfl (by rw [h7]; decide) ?_
            refine D.off rfl rfl (by rw [h7]; decide) ?_
            refine D.off rfl rfl (by rw [h7]; decide) ?_
            refine D.off rfl rfl (by rw [h7]; decide) ?_
            refine D.off rfl rfl (by rw [h7]; decide) ?_
            refine D.off rfl rfl (by rw [h7]; decide) ?_
            refine D.off rfl rfl (by rw [h7]; decide) ?_
            refine D.off rfl rfl (by rw [h7]; decide) ?_
            refine D.p rfl rfl (V.pT h7) ?_
            refine D.nl ?_
            refine cond (fun _ => ?_) (fun h => by cases h)
            refine AW.seq ?_
            refine AW.region ?_
            refine st V.assign ?_
            refine sn ?_
            refine AW.ret ?_
            repeat with_reducible first | refine thn_ret ?_ | refine inb_ret ?_
            refine fin (Res.i1 rfl) ?_
            refine ⟨_, List.Sublist.refl _, ?_⟩
            first
              | (have hw : wV d f t v n s = (10, n, s) := by rw [wV_eq, if_pos (by unfold badV; rw [if_pos k1, decide_eq_true_eq]; omega)]
                 rw [hw]; exact ⟨rfl, rfl⟩)
              | (have hw : wV d f t v n s = (0, n, f s t 0) := by rw [wV_eq, if_neg (by unfold badV; rw [if_pos k1, decide_eq_true_eq]; omega), if_pos k1]
                 rw [hw]; exact ⟨rfl, rfl⟩)
              | (have hw : wV d f ((p : Int) + 1) v n s = (10, n, s) := by rw [wV_eq, if_pos (by rw [badV_at d p hp0, decide_eq_true_eq]; omega)]
                 rw [hw]; exact ⟨rfl, rfl⟩)
              | (have hw : wV d f ((p : Int) + 1) v n s = (18, n, s) := by rw [wV_eq, hnb, if_neg (by decide), if_neg (by omega), if_pos (by omega)]
                 rw [hw]; exact ⟨rfl, rfl⟩)
              | (rw [hw, wL_at d f _ _ _ _ i z6 z7, if_pos ‹_›]; exact ⟨rfl, rfl⟩)
              | (rw [hw, (List.drop_eq_nil_of_le (by omega) : v.args.drop i = []), wL_nil]; exact ⟨rfl, rfl⟩)
        ·
          have k6 := bp h6
          refine D.off rfl rfl (by rw [h6]; decide) ?_
          refine D.off rfl rfl (by rw [h6]; decide) ?_
          refine D.off rfl rfl (by rw [h6]; decide) ?_
          refine D.off rfl rfl (by rw [h6]; decide) ?_
          refine D.off rfl rfl (by rw [h6]; decide) ?_
          refine D.p rfl rfl (V.pT h6) ?_
          refine D.p rfl rfl V.move ?_
          refine D.off rfl rfl (by decide) ?_
          refine D.off rfl rfl (by decide) ?_
          refine D.off rfl rfl (by decide) ?_
          refine D.off rfl rfl (by decide) ?_
          refine D.off rfl rfl (by decide) ?_
          refine D.off rfl rfl (by decide) ?_
          refine D.off rfl rfl (by decide) ?_
          refine D.off rfl rfl (by decide) ?_
          refine D.off rfl rfl (by decide) ?_
          refine D.off rfl rfl (by decide) ?_
          refine D.off rfl rfl (by decide) ?_
          refine D.p rfl rfl (V.pT rfl) ?_
          refine D.nl ?_
          refine cond (fun _ => ?_) (fun h => by cases h)
          refine AW.seq ?_
          refine AW.region ?_
          refine st V.assign ?_
          refine sn ?_
          refine AW.ret ?_
          repeat with_reducible first | refine thn_ret ?_ | refine inb_ret ?_
          refine fin (Res.i1 rfl) ?_
          refine ⟨_, List.Sublist.refl _, ?_⟩
          first
            | (have hw : wV d f t v n s = (10, n, s) := by rw [wV_eq, if_pos (by unfold badV; rw [if_pos k1, decide_eq_true_eq]; omega)]
               rw [hw]; exact ⟨rfl, rfl⟩)
            | (have hw : wV d f t v n s = (0, n, f s t 0) := by rw [wV_eq, if_neg (by unfold badV; rw [if_pos k1, decide_eq_true_eq]; omega), if_pos k1]
               rw [hw]; exact ⟨rfl, rfl⟩)
            | (have hw : wV d f ((p : Int) + 1) v n s = (10, n, s) := by rw [wV_eq, if_pos (by rw [badV_at d p hp0, decide_eq_true_eq]; omega)]
               rw [hw]; exact ⟨rfl, rfl⟩)
            | (have hw : wV d f ((p : Int) + 1) v n s = (18, n, s) := by rw [wV_eq, hnb, if_neg (by decide), if_neg (by omega), if_pos (by omega)]
               rw [hw]; exact ⟨rfl, rfl⟩)
            | (rw [hw, wL_at d f _ _ _ _ i z6 z7, if_pos ‹_›]; exact ⟨rfl, rfl⟩)
            | (rw [hw, (List.drop_eq_nil_of_le (by omega) : v.args.drop i = []), wL_nil]; exact ⟨rfl, rfl⟩)
      ·
        have k5 := bp h5
        refine D.off rfl rfl (by rw [h5]; decide) ?_
        refine D.off rfl rfl (by rw [h5]; decide) ?_
        refine D.off rfl rfl (by rw [h5]; decide) ?_
        refine D.p rfl rfl (V.pT h5) ?_
        refine D.p rfl rfl V.move ?_
        refine D.off rfl rfl (by decide) ?_
        refine D.off rfl rfl (by decide) ?_
        refine D.off rfl rfl (by decide) ?_
        refine D.off rfl rfl (by decide) ?_
        refine D.off rfl rfl (by decide) ?_
        refine D.p rfl rfl (V.pT rfl) ?_
        refine D.p rfl rfl V.move ?_
        refine D.off rfl rfl (by decide) ?_
        refine D.off rfl rfl (by decide) ?_
        refine D.off rfl rfl (by decide) ?_
        refine D.off rfl rfl (by decide) ?_
        refine D.off rfl rfl (by decide) ?_
        refine D.off rfl rfl (by decide) ?_
        refine D.off rfl rfl (by decide) ?_
        refine D.off rfl rfl (by decide) ?_
        refine D.off rfl rfl (by decide) ?_
        refine D.off rfl rfl (by decide) ?_
        refine D.off rfl rfl (by decide) ?_
        refine D.p rfl rfl (V.pT rfl) ?_
        refine D.nl ?_
        refine cond (fun _ => ?_) (fun h => by cases h)
        refine AW.seq ?_
        refine AW.region ?_
        refine st V.assign ?_
        refine sn ?_
        refine AW.ret ?_
        repeat with_reducible first | refine thn_ret ?_ | refine inb_ret ?_
        refine fin (Res.i1 rfl) ?_
        refine ⟨_, List.Sublist.refl _, ?_⟩
        first
          | (have hw : wV d f t v n s = (10, n, s) := by rw [wV_eq, if_pos (by unfold badV; rw [if_pos k1, decide_eq_true_eq]; omega)]
             rw [hw]; exact ⟨rfl, rfl⟩)
          | (have hw : wV d f t v n s = (0, n, f s t 0) := by rw [wV_eq, if_neg (by unfold badV; rw [if_pos k1, decide_eq_true_eq]; omega), if_pos k1]
             rw [hw]; exact ⟨rfl, rfl⟩)
          | (have hw : wV d f ((p : Int) + 1) v n s = (10, n, s) := by rw [wV_eq, if_pos (by rw [badV_at d p hp0, decide_eq_true_eq]; omega)]
             rw [hw]; exact ⟨rfl, rfl⟩)
          | (have hw : wV d f ((p : Int) + 1) v n s = (18, n, s) := by rw [wV_eq, hnb, if_neg (by decide), if_neg (by omega), if_pos (by omega)]
             rw [hw]; exact ⟨rfl, rfl⟩)
          | (rw [hw, wL_at d f _ _ _ _ i z6 z7, if_pos ‹_›]; exact ⟨rfl, rfl⟩)
          | (rw [hw, (List.drop_eq_nil_of_le (by omega) : v.args.drop i = []), wL_nil]; exact ⟨rfl, rfl⟩)
end Go.Proofs.YtieaiheejhmbfaaGreatDoor.ML
/- Walks of functions of the program, in the abstract layer. No conditions. -/
namespace Go.Proofs.YtieaiheejhmbfaaGreatDoor.ML
open Go.RowKit
set_option linter.unusedVariables false
set_option linter.unusedSimpArgs false
set_option maxHeartbeats 1600000 in
set_option synthInstance.maxHeartbeats 400000 in
set_option synthInstance.maxSize 100000 in
set_option maxRecDepth 100000 in
theorem walk_c {σ : Type} (d : List DT) (hT : TypedP d) (f : σ → Int → Int → σ) (J : σ → Heap) (g : Nat) [Fn Tryz.prog g] (caps : List Value) (t : Int) (v : VT) (ht : 0 ≤ t ∧ t ≤ d.length) (s : σ) (M : Mem) (Ad : Option Addr) (cd : Nat) (A : Option Addr) (c : Nat) (hd : RdS 2 (RdD M) Ad cd d) (hv : VV M A c v)
    (hp : ∀ (M' : Mem) [LeT M M'] (E : Heap) (s : σ) (t con : Int), AC Tryz.prog g (.int .i64 t :: .int .i64 con :: caps) M' (E ++ J s) fun v _ H' => v = .tuple #[] ∧ H' = E ++ J (f s t con)) :
    AC Tryz.prog 33 [.slice Ad d.length cd, .int .i64 t, .agg #[.int .i64 v.num, .int .i64 v.con, .slice A v.args.length c], .func (.func g) #[] caps.toArray] M (J s) fun r _ H' => r = .tuple #[.int .i64 (wV d f t v 0 s).2.1, .int .i64 (wV d f t v 0 s).1] ∧ H' = J (wV d f t v 0 s).2.2 := by
  refine AC.of (n := 16) Tryz.func33 rfl rfl ?_
  dsimp only [List.replicate, List.cons_append, List.nil_append]
  refine AW.seq ?_
  refine AW.region ?_
  refine se (S.boxM ?_); intro b4 M4 i4 j4
  refine se (S.boxM ?_); intro b6 M6 i6 j6
  refine se (S.boxM ?_); intro b7 M7 i7 j7
  refine st V.assign ?_
  refine st V.assign ?_
  refine sn ?_
  refine AW.seq ?_
  refine AW.region ?_
  refine se (S.alloc ?_); intro b10
  refine se (S.store ?_)
  refine sn ?_
  refine AW.seq ?_
  refine AW.region ?_
  refine se (S.alloc ?_); intro b11
  refine sn ?_
  refine AW.seq ?_
  refine AW.region ?_
  refine st V.fn ?_
  refine se (S.store ?_)
  refine sn ?_
  refine AW.seq ?_
  refine AW.fz 0 fun Mv iv jv => ?_
  refine AW.region ?_
  first | refine st V.ld ?_ | refine sq V.lo ?_
  refine st V.move ?_
  first | refine st V.ldA ?_ | refine sq V.loA ?_
  refine se (S.call ?_)
  refine (walk1_c d hT f J g caps (SizeOf.sizeOf v + 1) t v (by omega) ht 0 (by omega) s Mv b7 b4 b10 b11 Ad cd A c inferInstance inferInstance inferInstance hd.upD (VV.up hv) (fun M' q E s t con => @hp M' (LeT.tr (inferInstance : LeT M Mv) q) E s t con)).use ?_
  rintro v N G iz ⟨rfl, hG⟩
  subst hG
  refine st V.assign ?_
  refine sn ?_
  refine AW.seq ?_
  refine AW.region ?_
  first | refine st V.ld ?_ | refine sq V.lo ?_
  refine st V.move ?_
  refine st V.assign ?_
  refine st V.assign ?_
  refine sn ?_
  refine AW.ret ?_
  repeat with_reducible first | refine thn_ret ?_ | refine inb_ret ?_
  refine fin (Res.i2 rfl) ?_
  exact ⟨_, (by repeat first | exact List.Sublist.refl _ | apply List.Sublist.cons), rfl, rfl⟩
set_option maxHeartbeats 1600000 in
set_option synthInstance.maxHeartbeats 400000 in
set_option synthInstance.maxSize 100000 in
set_option maxRecDepth 100000 in
theorem cells_c (M : Mem) (H : Heap) (Ad : Option Addr) (cd : Nat) (d : List DT) (hd : RdS 2 (RdD M) Ad cd d) (t : Int) (A : Option Addr) (c : Nat) (v : VT) (hv : VV M A c v) :
    AC Tryz.prog 13 [.slice Ad d.length cd, .int .i64 t, .agg #[.int .i64 v.num, .int .i64 v.con, .slice A v.args.length c]] M H fun r _ H' => r = .tuple #[.int .i64 (cellsF d t v).1, .int .i64 (cellsF d t v).2] ∧ H' = H := by
  refine AC.of (n := 25) Tryz.func13 rfl rfl ?_
  dsimp only [List.replicate, List.cons_append, List.nil_append]
  refine AW.seq ?_
  refine AW.region ?_
  refine se (S.boxM ?_); intro b5 M5 i5 j5
  refine st V.assign ?_
  refine st V.assign ?_
  refine sn ?_
  refine AW.seq ?_
  refine AW.seq ?_
  refine AW.region ?_
  refine st V.move ?_
  refine st V.move ?_
  refine se (S.call ?_)
  refine (table_c _ _ Ad cd d hd.upD t).use ?_
  rintro v N G iz ⟨rfl, hG⟩
  obtain rfl := hG.symm
  refine st V.assign ?_
  refine sn ?_
  refine AW.seq ?_
  refine AW.region ?_
  refine st V.move ?_
  refine st V.neq ?_
  refine sn ?_
  refine cond (fun h1 => ?_) (fun h1 => ?_)
  ·
    have k1 := bp h1
    refine AW.seq ?_
    refine AW.region ?_
    refine st V.move ?_
    refine st V.assign ?_
    refine st V.assign ?_
    refine sn ?_
    refine AW.ret ?_
    repeat with_reducible first | refine thn_ret ?_ | refine inb_ret ?_
    refine fin (Res.i2 rfl) ?_
    exact ⟨_, (by repeat first | exact List.Sublist.refl _ | apply List.Sublist.cons), by rw [cellsF, if_pos k1], rfl⟩
  ·
    have k1 := bp h1
    refine AW.skip ?_
    refine AW.seq ?_
    obtain ⟨hc0, ht⟩ := tableF_ok k1
    have hT := (checkF_ok hc0).2.2.2.1
    refine AW.region ?_
    refine st V.move ?_
    refine st V.move ?_
    first | refine st V.ldA ?_ | refine sq V.loA ?_
    refine se (S.call (fst := []) (cap := []) ?_)
    refine (walk_c d hT (fun (_ : Unit) _ _ => ()) (fun _ => H) 34 [] t v ht () _ Ad cd A c hd.upD (VV.up hv) (fun M' _ E s t con => cells1_c M' _ t con)).use ?_
    rintro v N G iz ⟨rfl, hG⟩
    obtain rfl := hG.symm
    refine st V.move ?_
    refine st V.ext ?_
    refine st V.ext ?_
    refine st V.assign ?_
    refine st V.assign ?_
    refine sn ?_
    refine AW.seq ?_
    refine AW.seq ?_
    refine AW.region ?_
    refine st V.move ?_
    refine st V.neq ?_
    refine sn ?_
    refine cond (fun h2 => ?_) (fun h2 => ?_)
    ·
      have k2 := bp h2
      refine AW.seq ?_
      refine AW.region ?_
      refine st V.move ?_
      refine st V.assign ?_
      refine st V.assign ?_
      refine sn ?_
      refine AW.ret ?_
      repeat with_reducible first | refine thn_ret ?_ | refine inb_ret ?_
      refine fin (Res.i2 rfl) ?_
      exact ⟨_, (by repeat first | exact List.Sublist.refl _ | apply List.Sublist.cons), by rw [cellsF, if_neg (fun h => h k1), if_pos k2], rfl⟩
    ·
      have k2 := bp h2
      refine AW.skip ?_
      refine AW.seq ?_
      refine AW.region ?_
      refine st V.move ?_
      refine st V.assign ?_
      refine st V.assign ?_
      refine sn ?_
      refine AW.ret ?_
      repeat with_reducible first | refine thn_ret ?_ | refine inb_ret ?_
      refine fin (Res.i2 rfl) ?_
      exact ⟨_, (by repeat first | exact List.Sublist.refl _ | apply List.Sublist.cons), by rw [cellsF, if_neg (fun h => h k1), if_neg (fun h => h k2)], rfl⟩
set_option maxHeartbeats 1600000 in
set_option synthInstance.maxHeartbeats 400000 in
set_option synthInstance.maxSize 100000 in
set_option maxRecDepth 100000 in
theorem vcheck_c (M : Mem) (H : Heap) (Ad : Option Addr) (cd : Nat) (d : List DT) (hd : RdS 2 (RdD M) Ad cd d) (t : Int) (A : Option Addr) (c : Nat) (v : VT) (hv : VV M A c v) :
    AC Tryz.prog 15 [.slice Ad d.length cd, .int .i64 t, .agg #[.int .i64 v.num, .int .i64 v.con, .slice A v.args.length c]] M H fun r _ H' => r = .int .i64 (cellsF d t v).2 ∧ H' = H := by
  refine AC.of (n := 14) Tryz.func15 rfl rfl ?_
  dsimp only [List.replicate, List.cons_append, List.nil_append]
  refine AW.seq ?_
  refine AW.region ?_
  refine se (S.boxM ?_); intro b5 M5 i5 j5
  refine st V.assign ?_
  refine sn ?_
  refine AW.seq ?_
  refine AW.region ?_
  refine st V.move ?_
  refine st V.move ?_
  first | refine st V.ldA ?_ | refine sq V.loA ?_
  refine se (S.call ?_)
  refine (cells_c _ _ Ad cd d hd.upD t A c v (VV.up hv)).use ?_
  rintro v N G iz ⟨rfl, hG⟩
  obtain rfl := hG.symm
  refine st V.move ?_
  refine st V.ext ?_
  refine st V.ext ?_
  refine st V.assign ?_
  refine st V.assign ?_
  refine sn ?_
  refine AW.seq ?_
  refine AW.region ?_
  refine st V.move ?_
  refine st V.assign ?_
  refine sn ?_
  refine AW.ret ?_
  repeat with_reducible first | refine thn_ret ?_ | refine inb_ret ?_
  refine fin (Res.i1 rfl) ?_
  exact ⟨_, (by repeat first | exact List.Sublist.refl _ | apply List.Sublist.cons), rfl, rfl⟩
set_option maxHeartbeats 1600000 in
set_option synthInstance.maxHeartbeats 400000 in
set_option synthInstance.maxSize 100000 in
set_option maxRecDepth 100000 in
theorem sexists_c (M : Mem) (H : Heap) (A : Option Addr) (c : Nat) (n : Nat) (t : Int) :
    AC Tryz.prog 70 [.slice A n c, .int .i64 t] M H fun v M' H' => v = .bool (decide (0 ≤ t ∧ t ≤ n)) ∧ H' = H := by
  refine AC.of (n := 11) Tryz.func70 rfl rfl ?_
  dsimp only [List.replicate, List.cons_append, List.nil_append]
  refine AW.seq ?_
  refine AW.region ?_
  refine st V.assign ?_
  refine sn ?_
  refine AW.seq ?_
  refine AW.region ?_
  refine st V.move ?_
  refine st V.geq ?_
  refine st V.move ?_
  refine onoff false rfl rfl (fun h1 => ?_) (fun h1 => ?_)
  ·
    have k1 := bp h1
    refine st V.move ?_
    refine on rfl h1 ?_
    refine st V.move ?_
    refine on rfl h1 ?_
    refine st V.len ?_
    refine on rfl h1 ?_
    refine st V.leq ?_
    refine st (V.pT h1) ?_
    refine st V.assign ?_
    refine sn ?_
    refine AW.ret ?_
    repeat with_reducible first | refine thn_ret ?_ | refine inb_ret ?_
    refine fin (Res.i1 rfl) ?_
    exact ⟨_, (by repeat first | exact List.Sublist.refl _ | apply List.Sublist.cons), by simp; omega, rfl⟩
  ·
    have k1 := bp h1
    refine off rfl h1 ?_
    refine off rfl h1 ?_
    refine off rfl h1 ?_
    refine st (V.pF h1) ?_
    refine st V.assign ?_
    refine sn ?_
    refine AW.ret ?_
    repeat with_reducible first | refine thn_ret ?_ | refine inb_ret ?_
    refine fin (Res.i1 rfl) ?_
    exact ⟨_, (by repeat first | exact List.Sublist.refl _ | apply List.Sublist.cons), by simp; omega, rfl⟩
end Go.Proofs.YtieaiheejhmbfaaGreatDoor.ML
/- Walks of functions of the program, in the abstract layer. No conditions. -/
namespace Go.Proofs.YtieaiheejhmbfaaGreatDoor.ML
open Go.RowKit
set_option linter.unusedVariables false
set_option linter.unusedSimpArgs false
set_option maxHeartbeats 1600000 in
set_option synthInstance.maxHeartbeats 400000 in
set_option synthInstance.maxSize 100000 in
set_option maxRecDepth 100000 in
theorem cont1_c (d : List DT) (hT : TypedP d) (hd8 : d.length ≤ 1000000) : ∀ (s : Nat) (t : Int) (l : List Int), 0 ≤ t ∧ t ≤ d.length → OkC d l → d.length + 1 < s + l.length → ∀ (M : Mem) (H : Heap) (b bm bd bo bv : Nat) (Ad : Option Addr) (cd : Nat) (A : Option Addr) (c : Nat),
    Mb M bm [.map (some b)] → Mb M bd [.slice Ad d.length cd] → Mb M bv [.func (.func 97) #[] #[.pointer (some ⟨bm, 0, none⟩), .pointer (some ⟨bd, 0, none⟩), .pointer (some ⟨bo, 0, none⟩), .pointer (some ⟨bv, 0, none⟩)]] → RdS 2 (RdD M) Ad cd d →
    AC Tryz.prog 97 [.int .i64 t, .pointer (some ⟨bm, 0, none⟩), .pointer (some ⟨bd, 0, none⟩), .pointer (some ⟨bo, 0, none⟩), .pointer (some ⟨bv, 0, none⟩)] M (.blk bo (.cells #[.slice A (l).length c] 57 (0, 0)) :: .row A (l).length c 23 1 ((l).map (.int .i64)) :: .mp b (Go.MapKept.IsKey (.int .i64)) (setQ ((l).map (.int .i64))) :: H) fun v M' H' => v = .tuple #[] ∧ ∃ A' c', H' = .blk bo (.cells #[.slice A' (cvF d s t l).length c'] 57 (0, 0)) :: .row A' (cvF d s t l).length c' 23 1 ((cvF d s t l).map (.int .i64)) :: .mp b (Go.MapKept.IsKey (.int .i64)) (setQ ((cvF d s t l).map (.int .i64))) :: H
  | 0, t, l, ht, hok, hs => by have := hok.okl.len; omega
  | s + 1, t, l, ht, hok, hs => by
    intro M H b bm bd bo bv Ad cd A c q1 q2 q3 hd
    have hlen := hok.okl.len
    have hbd := hd.bd
    refine AC.of (n := 42) Tryz.func97 rfl rfl ?_
    dsimp only [List.replicate, List.cons_append, List.nil_append]
    refine AW.seq ?_
    refine AW.seq ?_
    refine AW.region ?_
    first | refine st V.ld ?_ | refine sq V.lo ?_
    refine st V.move ?_
    refine se (S.look (by first | trivial | rfl) ?_)
    rw [setQ_get]
    refine st V.move ?_
    refine onoff true rfl rfl (fun h1 => ?_) (fun h1 => ?_)
    ·
      have k1 := bp h1
      first | refine st V.ld ?_ | refine sq V.lo ?_
      refine on rfl h1 ?_
      refine st V.move ?_
      refine on rfl h1 ?_
      refine se (S.call ?_)
      refine (flat_c _ _ Ad cd d t hd.upD).use ?_
      rintro v N G iz ⟨rfl, hG⟩
      obtain rfl := hG.symm
      refine st (V.pF h1) ?_
      refine sn ?_
      refine cond (fun h2 => ?_) (fun h2 => ?_)
      ·
        have k2 := bp h2
        refine AW.ret ?_
        repeat with_reducible first | refine thn_ret ?_ | refine inb_ret ?_
        refine fin (Res.zero rfl) ?_
        refine ⟨_, List.Sublist.refl _, rfl, A, c, by rw [cvF_flat k2]⟩
      ·
        have k2 := bp h2
        refine AW.skip ?_
        refine AW.seq ?_
        have hnin : t ∉ l := by simpa using h1
        have hpos := flatF_pos ht k2
        obtain ⟨p, rfl⟩ : ∃ p : Nat, t = (p : Int) + 1 := ⟨(t - 1).toNat, by omega⟩
        have hp0 : p < d.length := by omega
        have hok2 : OkC d (l ++ [(p : Int) + 1]) := ⟨nodup_push hok.1 hnin, fun x hx => by rcases List.mem_append.1 hx with hx | hx; exact hok.2 x hx; simp at hx; subst hx; omega⟩
        have hlen2 := hok2.okl.len
        simp at hlen2
        refine AW.region ?_
        first | refine st V.ld ?_ | refine sq V.lo ?_
        refine st V.move ?_
        refine se (S.mapUpdate (by first | trivial | rfl) ?_)
        refine sn ?_
        refine AW.seq ?_
        refine AW.region ?_
        first | refine st V.ld ?_ | refine sq V.lo ?_
        refine st V.move ?_
        refine se (S.lit1 (by rfl) (by decide) ?_); intro g22
        refine se (S.ap1 (by rfl) (by omega) (by omega) ?_)
        intro A2 c2
        refine se (S.store ?_)
        refine sn ?_
        refine AW.seq ?_
        obtain ⟨bx, ox, hAx, w0, wb0, Ac, cc, w1, ec⟩ := (hd.upD (M' := N)).at p hp0
        have hbc := ec.bd
        refine AW.region ?_
        first | refine st V.ld ?_ | refine sq V.lo ?_
        refine st V.move ?_
        refine st (V.sub64 (by omega)) ?_
        refine st (V.ib p (by omega) hp0 hAx) ?_
        refine st V.fa ?_
        first | refine st V.ld ?_ | refine sq V.lo ?_
        refine st V.len ?_
        refine st V.move ?_
        refine sn ?_
        refine AW.block ?_
        refine AW.loopL [31] (7 :: 9 :: 32 :: 33 :: 34 :: 35 :: 36 :: 37 :: 38 :: 39 :: 40 :: 41 :: 42 :: 43 :: 44 :: 45 :: 46 :: []) (fun n vs M' H' => ∃ (i : Nat) (A' : Option Addr) (c' : Nat) (l' : List Int), vs = [.int .i64 (i : Int)] ∧ H' = .blk bo (.cells #[.slice A' (l').length c'] 57 (0, 0)) :: .row A' (l').length c' 23 1 ((l').map (.int .i64)) :: .mp b (Go.MapKept.IsKey (.int .i64)) (setQ ((l').map (.int .i64))) :: H ∧ l' = ((d[p].cons.take i).flatMap (·.fields)).foldl (fun l f => cvF d s f l) (l ++ [(p : Int) + 1]) ∧ OkC d l' ∧ l.length + 1 ≤ l'.length ∧ i + n = d[p].cons.length) (d[p].cons.length) (⟨0, A2, c2, l ++ [(p : Int) + 1], rfl, by rw [setQ_push]; simp, rfl, hok2, by simp, by omega⟩) ?_
        intro n Ml Hl iL u31 hI u7 u9 u32 u33 u34 u35 u36 u37 u38 u39 u40 u41 u42 u43 u44 u45 u46
        obtain ⟨i, A', c', l', hv, rfl, hl', hok', hle', hi⟩ := hI
        cases hv
        refine sa ?_
        refine AW.seq ?_
        refine AW.region ?_
        refine st V.lss ?_
        refine sn ?_
        refine AW.seq ?_
        refine cond (fun h3 => ?_) (fun h3 => ?_)
        ·
          have k3 := bp h3
          refine AW.skip ?_
          refine AW.seq ?_
          refine AW.block ?_
          refine AW.seq ?_
          have z6 : i < d[p].cons.length := by omega
          obtain ⟨b8, o8, hA8, i0, ib0, A8, c8, i1, i2⟩ := (ec.upC (M' := Ml)).at i z6
          have hbf := i2.bd
          refine AW.region ?_
          refine st (V.ib i rfl z6 hA8) ?_
          first | refine st V.ldA ?_ | refine sq V.loA ?_
          refine se (S.alloc ?_); intro b7
          refine se (S.storeA rfl ?_)
          refine sn ?_
          refine AW.seq ?_
          refine AW.region ?_
          refine st V.faz ?_
          first | refine st V.ld ?_ | refine sq V.lo ?_
          refine st V.len ?_
          refine st V.move ?_
          refine sn ?_
          refine AW.block ?_
          refine AW.drop (H' := .blk bo (.cells #[.slice A' (l').length c'] 57 (0, 0)) :: .row A' (l').length c' 23 1 ((l').map (.int .i64)) :: .mp b (Go.MapKept.IsKey (.int .i64)) (setQ ((l').map (.int .i64))) :: H) (by repeat first | exact List.Sublist.refl _ | apply List.Sublist.cons) ?_
          refine AW.loopL [38] (9 :: 39 :: 40 :: 41 :: 42 :: 43 :: 44 :: 45 :: []) (fun n vs M' H' => ∃ (j : Nat) (A' : Option Addr) (c' : Nat) (l' : List Int), vs = [.int .i64 (j : Int)] ∧ H' = .blk bo (.cells #[.slice A' (l').length c'] 57 (0, 0)) :: .row A' (l').length c' 23 1 ((l').map (.int .i64)) :: .mp b (Go.MapKept.IsKey (.int .i64)) (setQ ((l').map (.int .i64))) :: H ∧ l' = ((d[p].cons.take i).flatMap (·.fields) ++ d[p].cons[i].fields.take j).foldl (fun l f => cvF d s f l) (l ++ [(p : Int) + 1]) ∧ OkC d l' ∧ l.length + 1 ≤ l'.length ∧ j + n = d[p].cons[i].fields.length) (d[p].cons[i].fields.length) (⟨0, A', c', l', rfl, rfl, by rw [hl']; simp, hok', hle', by omega⟩) ?_
          intro n1 Ml1 Hl1 iL1 u38 hI1 u9 u39 u40 u41 u42 u43 u44 u45
          obtain ⟨j, A3, c3, l3, hv, rfl, hl3, hok3, hle3, hj⟩ := hI1
          cases hv
          refine sa ?_
          refine AW.seq ?_
          refine AW.region ?_
          refine st V.lss ?_
          refine sn ?_
          refine AW.seq ?_
          refine cond (fun h4 => ?_) (fun h4 => ?_)
          ·
            have k4 := bp h4
            refine AW.skip ?_
            refine AW.seq ?_
            refine AW.block ?_
            refine AW.seq ?_
            have z9 : j < d[p].cons[i].fields.length := by omega
            obtain ⟨b7, o7, hA7, e7⟩ := (i2.upI (M' := Ml1)).at j z9
            have e7 : Mk Ml1 b7 (o7 + j * 1) (.int .i64 d[p].cons[i].fields[j]) := e7
            refine AW.region ?_
            refine st (V.ib j rfl z9 hA7) ?_
            first | refine st V.ld ?_ | refine sq V.lo ?_
            refine st V.assign ?_
            refine sn ?_
            refine AW.region ?_
            first | refine st V.ld ?_ | refine sq V.lo ?_
            refine st V.move ?_
            refine se (S.call ?_)
            refine (cont1_c d hT hd8 s _ l3 (hT p hp0 i z6 _ (List.getElem_mem z9)) hok3 (by omega) _ H b bm bd bo bv Ad cd A3 c3 inferInstance inferInstance inferInstance hd.upD).use ?_
            rintro v7 N7 G7 iz7 ⟨rfl, A5, c5, hG⟩
            obtain rfl := hG
            refine sn ?_
            refine AW.region ?_
            refine st (V.add64 (by omega)) ?_
            refine st V.move ?_
            refine sn ?_
            repeat with_reducible refine inb_normal ?_
            refine thn_normal ?_
            have hcv := cvF_ok d hT s _ l3 (hT p hp0 i z6 _ (List.getElem_mem z9)) hok3
            refine rnd (n1 - 1) _ (by omega) (List.Sublist.refl _) ⟨j + 1, A5, c5, _, by simp, rfl, ?_, hcv.1, Nat.le_trans hle3 hcv.2, by omega⟩
            rw [take_succ _ _ z9, ← List.append_assoc, List.foldl_append, ← hl3]; rfl
          ·
            have k4 := bp h4
            refine AW.exit ?_
            repeat with_reducible refine thn_exit ?_
            refine inb_exit ?_
            refine AW.region ?_
            refine st (V.add64 (by omega)) ?_
            refine st V.move ?_
            refine sn ?_
            repeat with_reducible refine inb_normal ?_
            refine thn_normal ?_
            have e9 : d[p].cons[i].fields.take j = d[p].cons[i].fields := List.take_of_length_le (by omega)
            refine rnd (n - 1) _ (by omega) (List.Sublist.refl _) ⟨i + 1, A3, c3, l3, by simp, rfl, ?_, hok3, hle3, by omega⟩
            rw [hl3, take_succ _ _ z6, List.flatMap_append, e9, List.flatMap_cons, List.flatMap_nil, List.append_nil]
        ·
          have k3 := bp h3
          refine AW.exit ?_
          repeat with_reducible refine thn_exit ?_
          refine inb_exit ?_
          repeat with_reducible refine inb_normal ?_
          refine fin0 (Res.zero rfl) ?_
          refine ⟨_, List.Sublist.refl _, rfl, A', c', ?_⟩
          have e : cvF d (s + 1) ((p : Int) + 1) l = l' := by rw [cvF_new k2 hnin, hl', fields_at d p hp0, List.take_of_length_le (by omega)]
          rw [e]
    ·
      have k1 := bp h1
      refine off rfl h1 ?_
      refine off rfl h1 ?_
      refine st (V.pT h1) ?_
      refine sn ?_
      refine cond (fun _ => ?_) (fun h => by cases h)
      refine AW.ret ?_
      repeat with_reducible first | refine thn_ret ?_ | refine inb_ret ?_
      refine fin (Res.zero rfl) ?_
      refine ⟨_, List.Sublist.refl _, rfl, A, c, by rw [cvF_in (by simpa using h1)]⟩
set_option maxHeartbeats 1600000 in
set_option synthInstance.maxHeartbeats 400000 in
set_option synthInstance.maxSize 100000 in
set_option maxRecDepth 100000 in
theorem contents_c (d : List DT) (hT : TypedP d) (hd8 : d.length ≤ 1000000) (M : Mem) (H : Heap) (A : Option Addr) (c : Nat) (hd : RdS 2 (RdD M) A c d) (t : Int) (ht : 0 ≤ t ∧ t ≤ d.length) :
    AC Tryz.prog 71 [.slice A d.length c, .int .i64 t] M H fun v M' H' => ∃ A' c', v = .slice A' (contF d t).length c' ∧ RdS 1 (RdI M') A' c' (contF d t) ∧ H' = H := by
  refine AC.of (n := 12) Tryz.func71 rfl rfl ?_
  dsimp only [List.replicate, List.cons_append, List.nil_append]
  refine AW.seq ?_
  refine AW.region ?_
  refine se (S.boxM ?_); intro b2 M2 i2 j2
  refine st V.assign ?_
  refine sn ?_
  refine AW.seq ?_
  refine AW.region ?_
  refine se (S.alloc ?_); intro b5
  refine sn ?_
  refine AW.seq ?_
  refine AW.region ?_
  refine se (S.makeMap ?_); intro b8
  refine se (S.alloc ?_); intro b6
  refine se (S.store ?_)
  refine sn ?_
  refine AW.seq ?_
  refine AW.region ?_
  refine se (S.alloc ?_); intro b7
  refine sn ?_
  refine AW.seq ?_
  refine AW.region ?_
  refine st V.fn ?_
  refine se (S.store ?_)
  refine sn ?_
  refine AW.seq ?_
  refine AW.fz 0 fun Mv iv jv => ?_
  refine AW.fz 0 fun Mm im jm => ?_
  refine AW.row0 23 1 ?_
  refine AW.front 2 ?_
  have z0 : OkC d [] := ⟨by simp, by simp⟩
  rw [setQ_nil]
  refine AW.region ?_
  first | refine st V.ld ?_ | refine sq V.lo ?_
  refine st V.move ?_
  refine se (S.call ?_)
  refine (cont1_c d hT hd8 (d.length + 2) t [] ht z0 (by simp) _ _ b8 b6 b2 b5 b7 A c none 0 inferInstance inferInstance inferInstance hd.upD).use ?_
  rintro v N G iz ⟨rfl, A5, c5, hG⟩
  obtain rfl := hG
  refine AO.kp 1 fun Mk ik hk => ?_
  refine sn ?_
  refine AW.seq ?_
  refine AW.region ?_
  first | refine st V.ld ?_ | refine sq V.lo ?_
  refine st V.assign ?_
  refine sn ?_
  refine AW.ret ?_
  repeat with_reducible first | refine thn_ret ?_ | refine inb_ret ?_
  refine fin (Res.i1 rfl) ?_
  have hl := (cvF_ok d hT (d.length + 2) t [] ht z0).1.okl.len
  refine ⟨_, (by repeat first | exact List.Sublist.refl _ | apply List.Sublist.cons), A5, c5, rfl, hk.ints rfl (by omega), rfl⟩
set_option maxHeartbeats 1600000 in
set_option synthInstance.maxHeartbeats 400000 in
set_option synthInstance.maxSize 100000 in
set_option maxRecDepth 100000 in
theorem of_c (M : Mem) (H : Heap) (A : Option Addr) (c : Nat) (d : List DT) (hd : RdS 2 (RdD M) A c d) (t : Int) :
    AC Tryz.prog 37 [.slice A d.length c, .int .i64 t] M H fun v M' H' => ∃ A' c', v = .slice A' (ofF d t).length c' ∧ RdS 2 (RdP M') A' c' (ofF d t) ∧ H' = H := by
  refine AC.of (n := 43) Tryz.func37 rfl rfl ?_
  dsimp only [List.replicate, List.cons_append, List.nil_append]
  refine AW.seq ?_
  refine AW.region ?_
  refine st V.assign ?_
  refine sn ?_
  refine AW.seq ?_
  refine AW.seq ?_
  refine AW.region ?_
  refine st V.move ?_
  refine se (S.call ?_)
  refine (check_c _ _ A c d hd.upD).use ?_
  rintro v N G iz ⟨rfl, hG⟩
  obtain rfl := hG.symm
  refine st V.neq ?_
  refine st V.move ?_
  refine onoff true rfl rfl (fun h1 => ?_) (fun h1 => ?_)
  ·
    have k1 := bp h1
    refine st V.move ?_
    refine on rfl h1 ?_
    refine st V.move ?_
    refine on rfl h1 ?_
    refine se (S.call ?_)
    refine (sexists_c _ _ A c d.length t).use ?_
    rintro v N G iz ⟨rfl, hG⟩
    obtain rfl := hG.symm
    refine on rfl h1 ?_
    refine st V.not ?_
    refine st (V.pF h1) ?_
    refine sn ?_
    refine cond (fun h2 => ?_) (fun h2 => ?_)
    ·
      have k2 := bp h2
      refine AW.seq ?_
      refine AW.region ?_
      refine st V.assign ?_
      refine sn ?_
      refine AW.ret ?_
      repeat with_reducible first | refine thn_ret ?_ | refine inb_ret ?_
      refine fin (Res.i1 rfl) ?_
      have e : ofF d t = [] := by rw [ofF, if_neg (fun h => k2 h.2)]
      refine ⟨_, List.Sublist.refl _, ?_⟩
      rw [e]; exact ⟨none, 0, rfl, RdS.nil, rfl⟩
    ·
      have k2 := bp h2
      refine AW.skip ?_
      refine AW.seq ?_
      refine AW.region ?_
      refine st V.assign ?_
      refine sn ?_
      refine AW.seq ?_
      refine AW.seq ?_
      have hck : checkF d = 0 := k1
      have hco := checkF_ok hck
      have hT := hco.2.2.2.1
      have hbig := many_bd hco.1
      have ht : 0 ≤ t ∧ t ≤ d.length := k2
      have hcl : OkC d (contF d t) := (cvF_ok d hT (d.length + 2) t [] ht ⟨by simp, by simp⟩).1
      have hcn := hcl.okl.len
      have hof : ofF d t = placesF d (contF d t) := by rw [ofF, if_pos ⟨hck, ht⟩]
      refine AW.region ?_
      refine st V.move ?_
      refine st V.move ?_
      refine se (S.call ?_)
      refine (contents_c d hT (by omega) _ _ A c hd.upD t ht).use ?_
      rintro v4 N4 G4 iz4 ⟨Ac, cc, rfl, ec, hG⟩
      obtain rfl := hG.symm
      have hbc := ec.bd
      refine st V.len ?_
      refine st V.move ?_
      refine sn ?_
      refine AW.block ?_
      refine AW.row0 65 2 ?_
      refine AW.loopL [5, 22] (7 :: 8 :: 23 :: 24 :: 25 :: 26 :: 27 :: 28 :: 29 :: 30 :: 31 :: 32 :: 33 :: 34 :: 35 :: 36 :: 37 :: 38 :: 39 :: 40 :: 41 :: 42 :: 43 :: []) (fun n vs M' H' => ∃ (i : Nat) (A' : Option Addr) (c' : Nat) (l' : List (Int × Int)), vs = [.slice A' l'.length c', .int .i64 (i : Int)] ∧ H' = .row A' l'.length c' 65 2 (l'.flatMap plC) :: H ∧ l' = placesF d ((contF d t).take i) ∧ i + n = (contF d t).length) ((contF d t).length) (⟨0, none, 0, [], rfl, rfl, rfl, by omega⟩) ?_
      intro n Ml Hl iL u5 u22 hI u7 u8 u23 u24 u25 u26 u27 u28 u29 u30 u31 u32 u33 u34 u35 u36 u37 u38 u39 u40 u41 u42 u43
      obtain ⟨i, A', c', l', hv, hH, hl', hi⟩ := hI
      subst hH
      cases hv
      refine sa ?_
      refine AW.seq ?_
      refine AW.region ?_
      refine st V.lss ?_
      refine sn ?_
      refine AW.seq ?_
      refine cond (fun h3 => ?_) (fun h3 => ?_)
      ·
        have k3 := bp h3
        refine AW.skip ?_
        refine AW.seq ?_
        refine AW.block ?_
        refine AW.seq ?_
        have z6 : i < (contF d t).length := by omega
        obtain ⟨b7, o7, hA7, e7⟩ := (ec.upI (M' := Ml)).at i z6
        have e7 : Mk Ml b7 (o7 + i * 1) (.int .i64 (contF d t)[i]) := e7
        have hrg := hcl.2 _ (List.getElem_mem z6)
        obtain ⟨p, hp⟩ : ∃ p : Nat, (contF d t)[i] = (p : Int) + 1 := ⟨((contF d t)[i] - 1).toNat, by omega⟩
        have hp0 : p < d.length := by omega
        have hcc : consF d (contF d t)[i] = d[p].cons := by rw [hp, consF_at d p hp0]
        obtain ⟨bx, ox, hAx, w0, wb0, Ax, cx, w1, ex⟩ := (hd.upD (M' := Ml)).at p hp0
        have hbx := hbig.2 p hp0
        refine AW.region ?_
        refine st (V.ib i rfl z6 hA7) ?_
        first | refine st V.ld ?_ | refine sq V.lo ?_
        refine st V.assign ?_
        refine sn ?_
        refine AW.seq ?_
        refine AW.region ?_
        refine st V.move ?_
        refine st V.move ?_
        refine st (V.sub64 (by omega)) ?_
        refine st (V.ib p (by omega) hp0 hAx) ?_
        refine st V.fa ?_
        first | refine st V.ld ?_ | refine sq V.lo ?_
        refine st V.len ?_
        refine st V.move ?_
        refine sn ?_
        refine AW.block ?_
        refine AW.loopL [5, 33] (8 :: 34 :: 35 :: 36 :: 37 :: 38 :: 39 :: 40 :: 41 :: 42 :: []) (fun n vs M' H' => ∃ (j : Nat) (A' : Option Addr) (c' : Nat) (l' : List (Int × Int)), vs = [.slice A' l'.length c', .int .i64 (j : Int)] ∧ H' = .row A' l'.length c' 65 2 (l'.flatMap plC) :: H ∧ l' = placesF d ((contF d t).take i) ++ (List.range j).map (fun k : Nat => ((contF d t)[i], (k : Int))) ∧ j + n = d[p].cons.length) (d[p].cons.length) (⟨0, A', c', l', rfl, rfl, by simp [hl'], by omega⟩) ?_
        intro n1 Ml1 Hl1 iL1 u5 u33 hI1 u8 u34 u35 u36 u37 u38 u39 u40 u41 u42
        obtain ⟨j, A3, c3, l3, hv, hH, hl3, hj⟩ := hI1
        subst hH
        cases hv
        refine sa ?_
        refine AW.seq ?_
        refine AW.region ?_
        refine st V.lss ?_
        refine sn ?_
        refine AW.seq ?_
        refine cond (fun h4 => ?_) (fun h4 => ?_)
        ·
          have k4 := bp h4
          refine AW.skip ?_
          refine AW.seq ?_
          refine AW.block ?_
          refine AW.seq ?_
          refine AW.region ?_
          refine st V.move ?_
          refine st V.assign ?_
          refine sn ?_
          have hpb := places_bd d hbig.2 ((contF d t).take i)
          rw [List.length_take] at hpb
          have hln : l3.length ≤ 10000 := by rw [hl3]; simp; omega
          refine AW.region ?_
          refine st V.move ?_
          refine st V.move ?_
          refine st V.move ?_
          refine st (V.build (cells := [.int .i64 (contF d t)[i], .int .i64 (j : Int)]) rfl) ?_
          refine se (S.lit1 (by rfl) (by decide) ?_); intro g40
          refine se (S.ap1 (by rfl) (by omega) (by omega) ?_)
          intro A5 c5
          refine st V.assign ?_
          refine sn ?_
          refine AW.region ?_
          refine st (V.add64 (by omega)) ?_
          refine st V.move ?_
          refine sn ?_
          repeat with_reducible refine inb_normal ?_
          refine thn_normal ?_
          refine rnd (n1 - 1) _ (by omega) (List.Sublist.refl _) ⟨j + 1, A5, c5, l3 ++ [((contF d t)[i], (j : Int))], by simp, by simp [plC], ?_, by omega⟩
          rw [hl3, List.append_assoc, List.range_succ, List.map_append]; rfl
        ·
          have k4 := bp h4
          refine AW.exit ?_
          repeat with_reducible refine thn_exit ?_
          refine inb_exit ?_
          refine AW.region ?_
          refine st (V.add64 (by omega)) ?_
          refine st V.move ?_
          refine sn ?_
          repeat with_reducible refine inb_normal ?_
          refine thn_normal ?_
          refine rnd (n - 1) _ (by omega) (List.Sublist.refl _) ⟨i + 1, A3, c3, l3, by simp, rfl, ?_, by omega⟩
          rw [hl3, take_succ _ _ z6, placesF, placesF, List.flatMap_append, List.flatMap_cons, List.flatMap_nil, List.append_nil, show j = (consF d (contF d t)[i]).length by rw [hcc]; omega]
      ·
        have k3 := bp h3
        refine AW.exit ?_
        repeat with_reducible refine thn_exit ?_
        refine inb_exit ?_
        refine AW.seq ?_
        refine AW.kp 0 fun Mk ik hk => ?_
        refine AW.region ?_
        refine st V.move ?_
        refine st V.assign ?_
        refine sn ?_
        refine AW.ret ?_
        repeat with_reducible first | refine thn_ret ?_ | refine inb_ret ?_
        refine fin (Res.i1 rfl) ?_
        have e : l' = placesF d (contF d t) := by rw [hl', List.take_of_length_le (by omega)]
        have hpb := places_bd d hbig.2 (contF d t)
        rw [← e] at hpb
        refine ⟨_, List.Sublist.refl _, A', c', ?_, ?_, rfl⟩
        · rw [hof, ← e]
        · rw [hof, ← e]; exact hk.places rfl (by omega)
  ·
    have k1 := bp h1
    refine off rfl h1 ?_
    refine off rfl h1 ?_
    refine off rfl h1 ?_
    refine st (V.pT h1) ?_
    refine sn ?_
    refine cond (fun _ => ?_) (fun h => by cases h)
    refine AW.seq ?_
    refine AW.region ?_
    refine st V.assign ?_
    refine sn ?_
    refine AW.ret ?_
    repeat with_reducible first | refine thn_ret ?_ | refine inb_ret ?_
    refine fin (Res.i1 rfl) ?_
    have e : ofF d t = [] := by rw [ofF, if_neg (fun h => k1 h.1)]
    refine ⟨_, List.Sublist.refl _, ?_⟩
    rw [e]; exact ⟨none, 0, rfl, RdS.nil, rfl⟩
set_option maxHeartbeats 1600000 in
set_option synthInstance.maxHeartbeats 400000 in
set_option synthInstance.maxSize 100000 in
set_option maxRecDepth 100000 in
theorem cnt1_c (M : Mem) (H : Heap) (b1 b2 b g n c : Nat) (m : Value → Option Value) (ps : List (Int × Int)) (hm : IdxM ps m) (hps : ps.length = n) (hn : n ≤ 140737488355328) (q1 : Mb M b1 [.map (some b)]) (q2 : Mb M b2 [.slice (some ⟨g, 0, none⟩) n c]) (out : List Int) (t con : Int) :
    AC Tryz.prog 38 [.int .i64 t, .int .i64 con, .pointer (some ⟨b1, 0, none⟩), .pointer (some ⟨b2, 0, none⟩)] M (.row (some ⟨g, 0, none⟩) n c 3 1 ((out).map (.int .i64)) :: .mp b PairK m :: H) fun v _ H' => v = .tuple #[] ∧ H' = .row (some ⟨g, 0, none⟩) n c 3 1 ((countF ps out t con).map (.int .i64)) :: .mp b PairK m :: H := by
  refine AC.fact (out.length = n) (fun g w hS => by have := (hS.rowA 0 rfl).1; simpa using this) fun ho => ?_
  refine AC.of (n := 23) Tryz.func38 rfl rfl ?_
  dsimp only [List.replicate, List.cons_append, List.nil_append]
  refine AW.seq ?_
  refine AW.region ?_
  first | refine st V.ld ?_ | refine sq V.lo ?_
  refine st V.move ?_
  refine st V.move ?_
  refine st (V.build (cells := [.int .i64 t, .int .i64 con]) rfl) ?_
  refine se (S.look2 ⟨t, con, rfl⟩ ?_)
  rw [hm.getD, hm.some]
  refine st V.move ?_
  refine st V.ext ?_
  refine st V.ext ?_
  refine st V.assign ?_
  refine st V.assign ?_
  refine sn ?_
  refine AW.seq ?_
  refine AW.region ?_
  refine st V.move ?_
  refine st V.move ?_
  refine onoff false rfl rfl (fun h1 => ?_) (fun h1 => ?_)
  ·
    have k1 := bp h1
    refine st V.move ?_
    refine on rfl h1 ?_
    refine st V.neq ?_
    refine st (V.pT h1) ?_
    refine sn ?_
    refine cond (fun h2 => ?_) (fun h2 => ?_)
    ·
      have k2 := bp h2
      have hin : (t, con) ∈ ps := k1
      have hix : ps.idxOf (t, con) < n := by rw [← hps]; exact List.idxOf_lt_length_of_mem hin
      have hid : idxD ps (t, con) = (ps.idxOf (t, con) : Nat) := by rw [idxD, if_pos hin]
      refine AW.region ?_
      first | refine st V.ld ?_ | refine sq V.lo ?_
      refine st V.move ?_
      refine st (V.ib (ps.idxOf (t, con)) hid hix rfl) ?_
      refine sq (V.lr (v := .int .i64 (out.getD (ps.idxOf (t, con)) 0)) 0 rfl (by simp [List.getD, ho, hix])) ?_
      refine st (V.add) ?_
      refine st (V.ib (ps.idxOf (t, con)) hid hix rfl) ?_
      refine se (S.stR n c (by simp [ho, hix]) ?_)
      refine sn ?_
      repeat with_reducible refine inb_normal ?_
      refine fin0 (Res.zero rfl) ?_
      refine ⟨_, List.Sublist.refl _, rfl, ?_⟩
      rw [countF, if_pos ⟨hin, k2⟩]; simp [List.map_set]
    ·
      have k2 := bp h2
      refine AW.skip ?_
      repeat with_reducible refine inb_normal ?_
      refine fin0 (Res.zero rfl) ?_
      refine ⟨_, List.Sublist.refl _, rfl, by rw [countF, if_neg (fun h => h.2 k2)]⟩
  ·
    have k1 := bp h1
    refine off rfl h1 ?_
    refine st (V.pF h1) ?_
    refine sn ?_
    refine cond (fun h => by cases h) (fun _ => ?_)
    refine AW.skip ?_
    repeat with_reducible refine inb_normal ?_
    refine fin0 (Res.zero rfl) ?_
    refine ⟨_, List.Sublist.refl _, rfl, by rw [countF, if_neg (fun h => k1 h.1)]⟩
end Go.Proofs.YtieaiheejhmbfaaGreatDoor.ML
