/- Walks of functions of the program, in the abstract layer. No conditions. -/
import Derived.Test.YtieaiheejhmbfaaGreatDoorPk25
import Derived.Test.YtieaiheejhmbfaaGreatDoorPk18
namespace Go.Proofs.YtieaiheejhmbfaaGreatDoor.ML
open Go.RowKit
set_option linter.unusedVariables false
set_option linter.unusedSimpArgs false
set_option maxHeartbeats 1600000 in
set_option synthInstance.maxHeartbeats 400000 in
set_option synthInstance.maxSize 100000 in
set_option maxRecDepth 100000 in
theorem law_sums_c (M : Mem) (H : Heap) (hGM : GM M) (Ad : Option Addr) (cd : Nat) (d : List DT) (hd : RdS 2 (RdD M) Ad cd d) (t : Int) (A : Option Addr) (c : Nat) (v : VT) (hv : VV M A c v) :
    AC Tryz.prog 8 [.slice Ad d.length cd, .int .i64 t, .agg #[.int .i64 v.num, .int .i64 v.con, .slice A v.args.length c]] M H fun r _ H' => r = .bool true ∧ H' = H := by
  refine AC.of (n := 198) Tryz.func8 rfl rfl ?_
  dsimp only [List.replicate, List.cons_append, List.nil_append]
  refine AW.seq ?_
  refine AW.region ?_
  refine se (S.boxM ?_); intro b5 M5 i5 j5
  refine st V.assign ?_
  refine sn ?_
  refine AW.seq ?_
  refine AW.seq ?_
  refine AW.region ?_
  refine st V.move ?_
  first | refine st V.ldA ?_ | refine sq V.loA ?_
  refine se (S.call ?_)
  refine (few_c _ _ Ad cd d hd.upD A c v (VV.up hv)).use ?_
  rintro v1 N1 G1 iz1 ⟨rfl, hG⟩
  obtain rfl := hG.symm
  refine st V.not ?_
  refine sn ?_
  refine cond (fun h1 => ?_) (fun h1 => ?_)
  ·
    have k1 := bp h1
    refine AW.seq ?_
    refine AW.region ?_
    refine se (S.call ?_)
    refine (awake_c _ _ hGM.up).use ?_
    rintro v2 N2 G2 iz2 ⟨rfl, hG⟩
    obtain rfl := hG.symm
    refine st V.assign ?_
    refine sn ?_
    refine AW.ret ?_
    repeat with_reducible first | refine thn_ret ?_ | refine inb_ret ?_
    refine fin (Res.i1 rfl) ?_
    exact ⟨_, (by repeat first | exact List.Sublist.refl _ | apply List.Sublist.cons), rfl, rfl⟩
  ·
    have k1 := bp h1
    refine AW.skip ?_
    refine AW.seq ?_
    refine AW.region ?_
    refine st V.move ?_
    refine st V.move ?_
    first | refine st V.ldA ?_ | refine sq V.loA ?_
    refine se (S.call ?_)
    refine (cells_c _ _ Ad cd d hd.upD t A c v (VV.up hv)).use ?_
    rintro v3 N3 G3 iz3 ⟨rfl, hG⟩
    obtain rfl := hG.symm
    refine st V.move ?_
    refine st V.ext ?_
    refine st V.ext ?_
    refine st V.assign ?_
    refine st V.assign ?_
    refine sn ?_
    refine AW.seq ?_
    refine AW.region ?_
    refine st V.move ?_
    refine st V.move ?_
    first | refine st V.ldA ?_ | refine sq V.loA ?_
    refine se (S.call ?_)
    refine (counts_c _ _ Ad cd d hd.upD t A c v (VV.up hv)).use ?_
    rintro v4 N4 G4 iz4 ⟨A1, c1, rfl, ec1, hG⟩
    obtain rfl := hG.symm
    rw [counts_err]
    refine st V.move ?_
    refine st V.ext ?_
    refine st V.ext ?_
    refine st V.assign ?_
    refine st V.assign ?_
    refine sn ?_
    refine AW.seq ?_
    refine AW.seq ?_
    refine AW.region ?_
    refine st V.move ?_
    refine st V.neq ?_
    refine st V.move ?_
    refine onoff true rfl rfl (fun h2 => ?_) (fun h2 => ?_)
    ·
      have k2 := bp h2
      refine st V.move ?_
      refine on rfl h2 ?_
      refine st (V.neqF k2) ?_
      refine st (V.pF h2) ?_
      refine st V.move ?_
      refine on rfl rfl ?_
      refine st V.move ?_
      refine on rfl rfl ?_
      refine st V.eql ?_
      refine st (V.pF rfl) ?_
      refine sn ?_
      refine cond (fun h3 => ?_) (fun h3 => ?_)
      ·
        have k3 := bp h3
        refine AW.seq ?_
        refine AW.region ?_
        refine se (S.call ?_)
        refine (awake_c _ _ hGM.up).use ?_
        rintro v6 N6 G6 iz6 ⟨rfl, hG⟩
        obtain rfl := hG.symm
        refine st V.move ?_
        refine on rfl rfl ?_
        refine st V.move ?_
        refine on rfl rfl ?_
        refine st V.move ?_
        refine on rfl rfl ?_
        refine st (V.eqlT rfl) ?_
        refine st (V.pT rfl) ?_
        refine st V.assign ?_
        refine sn ?_
        refine AW.ret ?_
        repeat with_reducible first | refine thn_ret ?_ | refine inb_ret ?_
        refine fin (Res.i1 rfl) ?_
        exact ⟨_, (by repeat first | exact List.Sublist.refl _ | apply List.Sublist.cons), rfl, rfl⟩
      ·
        have k3 := bp h3
        refine AW.skip ?_
        refine AW.seq ?_
        obtain ⟨hT, ht0, ht1, hc⟩ := cells_ok k2
        have hty := cells_ty k2
        have hwz := cells_w k2
        have hcl := counts_cnt k2
        have hcat := cells_at k2
        have hbd := hd.bd
        have hba : v.args.length ≤ 140737488355328 := RdS.bd hv
        obtain ⟨p, k, hp0, hk', rfl, hnum, hk, hal, hch⟩ := hty.conE k3
        have hfe : fldV d ((p : Int) + 1) v = d[p].cons[k].fields := fldV_at d p hp0 v k hk hk'
        have hnb : badV d ((p : Int) + 1) v = false := by
          cases hb : badV d ((p : Int) + 1) v with
          | false => rfl
          | true => rw [wV_eq, if_pos hb] at hwz; simp at hwz
        have hu := wV_u d ⟨ht0, ht1⟩ hnb 0
        rw [if_neg (by omega), hfe, Nat.zero_add] at hu
        obtain ⟨n0, hn0⟩ : ∃ n0, n0 = (wV d (fun (_ : Unit) _ _ => ()) ((p : Int) + 1) v 0 ()).2.1 := ⟨_, rfl⟩
        have hlen : (countsF d ((p : Int) + 1) v).1.length = (ofF d ((p : Int) + 1)).length := hcl.1
        rw [hlen]
        have hnd := of_nodup d ((p : Int) + 1)
        have hbo := of_bd d ((p : Int) + 1)
        obtain ⟨b8, o8, hA8, i0, ib0, A8, c8, i1, i2⟩ := (hd.upD (M' := N4)).at p hp0
        obtain ⟨b9, o9, hA9, e0, eb, A9, c9, e1, e2⟩ := i2.at k hk'
        have hb9 := e2.bd
        refine AW.regionD mx false [0, 1, 2, 3, 4, 5, 6, 7, 8, 9, 10, 11] [[], [], [1], [0, 1, 2], [0, 1, 2, 3], [0, 1, 2, 3, 4], [], [6], [0, 1, 2, 3, 4, 5, 6, 7], [0, 1, 2, 3, 4, 5, 6, 7, 8], [0, 1, 2, 3, 4, 5, 6, 7, 8, 9], [0, 1, 2, 3, 4, 5, 6, 7, 8, 9, 10]] (by kernel_rfl) ?_
        refine D.p rfl rfl V.move ?_
        refine D.p rfl rfl V.move ?_
        refine D.p rfl rfl (V.sub64 (by omega)) ?_
        refine D.p rfl rfl (V.ib p (by omega) hp0 hA8) ?_
        refine D.p rfl rfl V.fa ?_
        first | refine D.p rfl rfl V.ld ?_ | refine D.q rfl rfl V.lo ?_
        refine D.p rfl rfl V.faz ?_
        first | refine D.p rfl rfl V.ld ?_ | refine D.q rfl rfl V.lo ?_
        refine D.p rfl rfl (V.ib k hk hk' hA9) ?_
        refine D.p rfl rfl V.fa ?_
        first | refine D.p rfl rfl V.ld ?_ | refine D.q rfl rfl V.lo ?_
        refine D.p rfl rfl V.assign ?_
        refine D.nl ?_
        refine AW.seq ?_
        refine AW.region ?_
        refine st V.assign ?_
        refine sn ?_
        refine AW.cutL [12] (70 :: 71 :: 72 :: []) (fun vs M' H' => ∃ s0 : Nat, vs = [.int .i64 (s0 : Int)] ∧ H' = H ∧ s0 = (if 0 < v.args.length then 1 else 0)) ?_ ?_
        ·
          refine AW.seq ?_
          refine AW.region ?_
          refine st V.move ?_
          refine st V.len ?_
          refine st V.gtr ?_
          refine sn ?_
          refine cond (fun h4 => ?_) (fun h4 => ?_)
          ·
            have k4 := bp h4
            refine AW.region ?_
            refine st V.assign ?_
            refine sn ?_
            repeat with_reducible refine inb_normal ?_
            refine thn_normal ?_
            exact met _ (List.Sublist.refl _) ⟨1, rfl, rfl, by rw [if_pos (by omega)]⟩
          ·
            have k4 := bp h4
            refine AW.skip ?_
            repeat with_reducible refine inb_normal ?_
            refine thn_normal ?_
            exact met _ (List.Sublist.refl _) ⟨0, rfl, rfl, by rw [if_neg (by omega)]⟩
        ·
          intro Mc11 Hc11 iC11 u12 hJ u70 u71 u72
          obtain ⟨s0, hv', hH, hs0⟩ := hJ
          obtain rfl := hH.symm
          cases hv'
          rw [← hs0] at hu
          have hw1 : (wL d (fun (_ : Unit) _ _ => ()) (d[p].cons[k].fields.drop 0) (v.args.drop 0) s0 ()).1 = 0 := by rw [hu] at hwz; exact hwz
          have hw2 : (wL d (fun (_ : Unit) _ _ => ()) (d[p].cons[k].fields.drop 0) (v.args.drop 0) s0 ()).2.1 = n0 := by rw [hn0, hu]; rfl
          refine sa ?_
          refine AW.seq ?_
          refine AW.region ?_
          refine st V.move ?_
          refine st V.len ?_
          refine se (S.make (k := .i64) (k' := .i64) (n := (ofF d ((p : Int) + 1)).length) (by omega) (by omega) ?_)
          intro g75
          rw [show ((madeCells (Value.int .i64 0).cells ((ofF d ((p : Int) + 1)).length * 1)).toList) = _ from by rw [Nat.mul_one, madeCells_int]]
          refine st V.assign ?_
          refine sn ?_
          refine AW.seq ?_
          refine AW.region ?_
          refine st V.move ?_
          refine st V.move ?_
          refine st V.move ?_
          refine st V.faz ?_
          first | refine st V.ld ?_ | refine sq V.lo ?_
          refine st (V.build (cells := [.int .i64 ((p : Int) + 1), .int .i64 v.con]) rfl) ?_
          refine se (S.call ?_)
          refine (r_index_c _ _ Ad cd d hd.upD ((p : Int) + 1) ((p : Int) + 1) v.con).use ?_
          rintro v12 N12 G12 iz12 ⟨rfl, hG⟩
          obtain rfl := hG.symm
          refine st V.assign ?_
          refine sn ?_
          refine AW.cutL [] (83 :: 84 :: 85 :: 86 :: 87 :: 88 :: 89 :: 90 :: 91 :: 92 :: 93 :: []) (fun vs M' H' => vs = [] ∧ H' = .row (some ⟨g75, 0, none⟩) (ofF d ((p : Int) + 1)).length (ofF d ((p : Int) + 1)).length 3 1 ((countF (ofF d ((p : Int) + 1)) (List.replicate (ofF d ((p : Int) + 1)).length 0) ((p : Int) + 1) v.con).map (.int .i64)) :: H) ?_ ?_
          ·
            refine AW.seq ?_
            refine AW.region ?_
            refine st V.move ?_
            refine st V.geq ?_
            refine st V.move ?_
            refine onoff false rfl rfl (fun h5 => ?_) (fun h5 => ?_)
            ·
              have k5 := bp h5
              refine st V.move ?_
              refine on rfl h5 ?_
              refine st V.move ?_
              refine on rfl h5 ?_
              refine st V.len ?_
              refine on rfl h5 ?_
              refine st V.lss ?_
              refine st (V.pT h5) ?_
              refine sn ?_
              refine cond (fun h6 => ?_) (fun h6 => ?_)
              ·
                have k6 := bp h6
                have hin : ((p : Int) + 1, v.con) ∈ (ofF d ((p : Int) + 1)) := by by_cases h : ((p : Int) + 1, v.con) ∈ (ofF d ((p : Int) + 1)); exact h; (rw [idxF, if_neg h] at k5; omega)
                have hq := List.idxOf_lt_length_of_mem hin
                refine AW.region ?_
                refine st V.move ?_
                refine st V.move ?_
                refine st (V.ib ((ofF d ((p : Int) + 1)).idxOf ((p : Int) + 1, v.con)) (idxF_in hin) hq rfl) ?_
                refine se (S.storeR 0 rfl (by simp; omega) ?_)
                refine sn ?_
                repeat with_reducible refine inb_normal ?_
                refine thn_normal ?_
                have hz : (List.replicate (ofF d ((p : Int) + 1)).length (0 : Int)).getD ((ofF d ((p : Int) + 1)).idxOf ((p : Int) + 1, v.con)) 0 = 0 := by simp [List.getD, List.getElem?_replicate, hq]
                exact met _ (List.Sublist.refl _) ⟨rfl, by rw [countF, if_pos ⟨hin, by omega⟩, hz]; simp [List.map_set]; rfl⟩
              ·
                have k6 := bp h6
                refine AW.skip ?_
                repeat with_reducible refine inb_normal ?_
                refine thn_normal ?_
                exact absurd (by by_cases hin : ((p : Int) + 1, v.con) ∈ (ofF d ((p : Int) + 1)); (have := List.idxOf_lt_length_of_mem hin; rw [idxF_in hin]; omega); (rw [idxF, if_neg hin] at k5; omega)) k6
            ·
              have k5 := bp h5
              refine off rfl h5 ?_
              refine off rfl h5 ?_
              refine off rfl h5 ?_
              refine st (V.pF h5) ?_
              refine sn ?_
              refine cond (fun h => by cases h) (fun _ => ?_)
              refine AW.skip ?_
              repeat with_reducible refine inb_normal ?_
              refine thn_normal ?_
              exact met _ (List.Sublist.refl _) ⟨rfl, by rw [countF, if_neg (fun hh => k5 (by rw [idxF_in hh.1]; omega))]⟩
          ·
            intro Mc15 Hc15 iC15  hJ u83 u84 u85 u86 u87 u88 u89 u90 u91 u92 u93
            obtain ⟨hv', hH⟩ := hJ
            subst hH
            have hc0 : Cnt (ofF d ((p : Int) + 1)) (List.replicate (ofF d ((p : Int) + 1)).length 0) (fun x => (if ((p : Int) + 1, v.con) = x then 1 else 0) + cntL d x (d[p].cons[k].fields.take 0) (v.args.take 0)) (countF (ofF d ((p : Int) + 1)) (List.replicate (ofF d ((p : Int) + 1)).length 0) ((p : Int) + 1) v.con) := (cnt_count hnd (by simp) (InW.zero _) _ _ (by omega)).congr (fun x _ => by simp [cntL])
            refine sa ?_
            refine AW.seq ?_
            refine AW.seq ?_
            refine AW.region ?_
            refine st V.assign ?_
            refine sn ?_
            refine AW.block ?_
            refine AW.loopL [12, 15] (6 :: 16 :: 17 :: 18 :: 19 :: 20 :: 21 :: 22 :: 94 :: 95 :: 96 :: 97 :: 98 :: 99 :: 100 :: 101 :: 102 :: 103 :: 104 :: 105 :: 106 :: 107 :: 108 :: 109 :: 110 :: 111 :: 112 :: 113 :: 114 :: 115 :: 116 :: 117 :: 118 :: 119 :: 120 :: 121 :: 122 :: 123 :: 124 :: 125 :: 126 :: 127 :: 128 :: 129 :: 130 :: 131 :: 132 :: 133 :: 134 :: 135 :: 136 :: 137 :: 138 :: 139 :: 140 :: 141 :: 142 :: 143 :: 144 :: 145 :: 146 :: 147 :: 148 :: 149 :: 150 :: 151 :: 152 :: 153 :: 154 :: 155 :: 156 :: 157 :: 158 :: 159 :: 160 :: 161 :: 162 :: 163 :: 164 :: 165 :: 166 :: 167 :: 168 :: 169 :: 170 :: 171 :: 172 :: 173 :: 174 :: 175 :: 176 :: 177 :: 178 :: 179 :: 180 :: 181 :: []) (fun n vs M' H' => ∃ (i s1 : Nat) (L : List Int), vs = [.int .i64 (s1 : Int), .int .i64 (i : Int)] ∧ H' = .row (some ⟨g75, 0, none⟩) (ofF d ((p : Int) + 1)).length (ofF d ((p : Int) + 1)).length 3 1 ((L).map (.int .i64)) :: H ∧ i + n = v.args.length ∧ s1 ≤ 65536 ∧ (wL d (fun (_ : Unit) _ _ => ()) (d[p].cons[k].fields.drop i) (v.args.drop i) s1 ()).1 = 0 ∧ (wL d (fun (_ : Unit) _ _ => ()) (d[p].cons[k].fields.drop i) (v.args.drop i) s1 ()).2.1 = n0 ∧ Cnt (ofF d ((p : Int) + 1)) (List.replicate (ofF d ((p : Int) + 1)).length 0) (fun x => (if ((p : Int) + 1, v.con) = x then 1 else 0) + cntL d x (d[p].cons[k].fields.take i) (v.args.take i)) L) (v.args.length) (⟨0, s0, _, rfl, rfl, by omega, by rw [hs0]; split <;> omega, hw1, hw2, hc0⟩) ?_
            intro n Ml Hl iL u12 u15 hI u6 u16 u17 u18 u19 u20 u21 u22 u94 u95 u96 u97 u98 u99 u100 u101 u102 u103 u104 u105 u106 u107 u108 u109 u110 u111 u112 u113 u114 u115 u116 u117 u118 u119 u120 u121 u122 u123 u124 u125 u126 u127 u128 u129 u130 u131 u132 u133 u134 u135 u136 u137 u138 u139 u140 u141 u142 u143 u144 u145 u146 u147 u148 u149 u150 u151 u152 u153 u154 u155 u156 u157 u158 u159 u160 u161 u162 u163 u164 u165 u166 u167 u168 u169 u170 u171 u172 u173 u174 u175 u176 u177 u178 u179 u180 u181
            obtain ⟨i, s1, L, hv', hH, hi, hs1, hx1, hx2, hL⟩ := hI
            subst hH
            cases hv'
            refine sa ?_
            refine AW.seq ?_
            refine AW.seq ?_
            refine AW.region ?_
            refine st V.move ?_
            refine st V.move ?_
            refine st V.len ?_
            refine st V.lss ?_
            refine sn ?_
            refine cond (fun h8 => ?_) (fun h8 => ?_)
            ·
              have k8 := bp h8
              refine AW.skip ?_
              refine AW.seq ?_
              refine AW.block ?_
              refine AW.seq ?_
              have z6 : i < v.args.length := by omega
              have z7 : i < d[p].cons[k].fields.length := by omega
              obtain ⟨ba, oa, hAa, ea⟩ := (VV.up (M' := Ml) hv).at i z6
              obtain ⟨Ax, cx, x0, x1, x2, xs⟩ := ea.get
              obtain ⟨b5, o5, hA5, e5⟩ := (e2.upI (M' := Ml)).at i z7
              have e5 : Mk Ml b5 (o5 + i * 1) (.int .i64 d[p].cons[k].fields[i]) := e5
              have hsty := hch i z6 z7
              have hfr := hT p hp0 k hk' _ (List.getElem_mem z7)
              have hff : d[p].cons[k].fields[i] ∈ fieldsF d ((p : Int) + 1) := by rw [fields_at d p hp0, List.mem_flatMap]; exact ⟨_, List.getElem_mem hk', List.getElem_mem z7⟩
              have hw3 := wL_at d (fun (_ : Unit) _ _ => ()) d[p].cons[k].fields v.args s1 () i z6 z7
              have hw4 : (wV d (fun (_ : Unit) _ _ => ()) d[p].cons[k].fields[i] v.args[i] s1 ()).1 = 0 := by
                by_cases he : (wV d (fun (_ : Unit) _ _ => ()) d[p].cons[k].fields[i] v.args[i] s1 ()).1 = 0
                · exact he
                · rw [hw3, if_pos he] at hx1; exact absurd hx1 he
              rw [hw3, if_neg (fun hh => hh hw4)] at hx1 hx2
              have had := wV_add d d[p].cons[k].fields[i] v.args[i] s1 0 (by omega) hs1 hw4
              have hci : (cellsF d d[p].cons[k].fields[i] v.args[i]).2 = 0 := cells_of hc hfr had.1
              have hce := cells_at hci
              have hki := counts_cnt hci
              have hlei := wV_le d (fun (_ : Unit) _ _ => ()) d[p].cons[k].fields[i] v.args[i] s1 () hs1
              refine AW.regionD mx true [0, 1, 2, 3, 4, 5, 6, 7, 8, 9, 10, 11, 12, 13, 14, 15] [[], [], [], [1, 2], [1, 2, 3], [], [5], [], [5, 6, 7], [5, 6, 7, 8], [0, 1, 2, 3, 4, 5, 6, 7, 8, 9], [0, 1, 2, 3, 4, 5, 6, 7, 8, 9, 10], [0, 1, 2, 3, 4, 5, 6, 7, 8, 9, 10, 11], [0, 1, 2, 3, 4, 5, 6, 7, 8, 9, 10, 11], [0, 1, 2, 3, 4, 5, 6, 7, 8, 9, 10, 11, 12], [0, 1, 2, 3, 4, 5, 6, 7, 8, 9, 10, 11, 12, 13, 14]] (by kernel_rfl) ?_
              refine D.p rfl rfl V.move ?_
              refine D.p rfl rfl V.move ?_
              refine D.p rfl rfl V.move ?_
              refine D.p rfl rfl (V.ib i rfl z7 hA5) ?_
              refine D.p rfl rfl V.ld ?_
              refine D.p rfl rfl V.faz ?_
              refine D.p rfl rfl V.ld ?_
              refine D.p rfl rfl V.move ?_
              refine D.p rfl rfl (V.ib i rfl z6 hAa) ?_
              refine D.p rfl rfl V.ldA ?_
              refine D.e rfl rfl (S.call ?_)
              refine (cells_c _ _ Ad cd d hd.upD _ Ax cx v.args[i] (VV.up (x := v.args[i]) xs)).use ?_
              rintro v18 N18 G18 iz18 ⟨rfl, hG⟩
              obtain rfl := hG.symm
              rw [hci, show (cellsF d d[p].cons[k].fields[i] v.args[i]).1 = (((wV d (fun (_ : Unit) _ _ => ()) d[p].cons[k].fields[i] v.args[i] 0 ()).2.1 : Nat) : Int) from by rw [hce]]
              refine D.p rfl rfl V.move ?_
              refine D.p rfl rfl V.ext ?_
              refine D.p rfl rfl V.ext ?_
              refine D.p rfl rfl V.assign ?_
              refine D.p rfl rfl V.assign ?_
              refine D.nl ?_
              refine AW.seq ?_
              refine AW.regionD mx true [0, 1, 2, 3, 4, 5, 6, 7, 8, 9, 10, 11, 12, 13, 14, 15] [[], [], [], [1, 2], [1, 2, 3], [], [5], [], [5, 6, 7], [5, 6, 7, 8], [0, 1, 2, 3, 4, 5, 6, 7, 8, 9], [0, 1, 2, 3, 4, 5, 6, 7, 8, 9, 10], [0, 1, 2, 3, 4, 5, 6, 7, 8, 9, 10, 11], [0, 1, 2, 3, 4, 5, 6, 7, 8, 9, 10, 11], [0, 1, 2, 3, 4, 5, 6, 7, 8, 9, 10, 11, 12], [0, 1, 2, 3, 4, 5, 6, 7, 8, 9, 10, 11, 12, 13, 14]] (by kernel_rfl) ?_
              refine D.p rfl rfl V.move ?_
              refine D.p rfl rfl V.move ?_
              refine D.p rfl rfl V.move ?_
              refine D.p rfl rfl (V.ib i rfl z7 hA5) ?_
              refine D.p rfl rfl V.ld ?_
              refine D.p rfl rfl V.faz ?_
              refine D.p rfl rfl V.ld ?_
              refine D.p rfl rfl V.move ?_
              refine D.p rfl rfl (V.ib i rfl z6 hAa) ?_
              refine D.p rfl rfl V.ldA ?_
              refine D.e rfl rfl (S.call ?_)
              refine (counts_c _ _ Ad cd d hd.upD _ Ax cx v.args[i] (VV.up (x := v.args[i]) xs)).use ?_
              rintro v19 N19 G19 iz19 ⟨A19, c19, rfl, ec19, hG⟩
              obtain rfl := hG.symm
              rw [counts_err, hci, hki.1]
              refine D.p rfl rfl V.move ?_
              refine D.p rfl rfl V.ext ?_
              refine D.p rfl rfl V.ext ?_
              refine D.p rfl rfl V.assign ?_
              refine D.p rfl rfl V.assign ?_
              refine D.nl ?_
              refine AW.seq ?_
              refine AW.region ?_
              refine st V.move ?_
              refine st V.move ?_
              refine st V.move ?_
              refine st V.move ?_
              refine st (V.ib i rfl z7 hA5) ?_
              first | refine st V.ld ?_ | refine sq V.lo ?_
              refine se (S.call ?_)
              refine (r_inside_c _ _ Ad cd d hd.upD hc ((p : Int) + 1) ⟨ht0, ht1⟩ d[p].cons[k].fields[i] hfr (fun x hx => of_sub hT ⟨ht0, ht1⟩ hff hx)).use ?_
              rintro v20 N20 G20 iz20 ⟨A20, c20, rfl, ec20, hG⟩
              obtain rfl := hG.symm
              have hbi := of_bd d d[p].cons[k].fields[i]
              refine st V.move ?_
              refine st V.ext ?_
              refine st V.ext ?_
              refine st V.assign ?_
              refine st V.assign ?_
              refine sn ?_
              refine AW.seq ?_
              refine AW.seq ?_
              refine AW.region ?_
              refine st V.move ?_
              refine st (V.neqF rfl) ?_
              refine st V.move ?_
              refine on rfl rfl ?_
              refine st V.move ?_
              refine on rfl rfl ?_
              refine st (V.neqF rfl) ?_
              refine st (V.pF rfl) ?_
              refine st V.move ?_
              refine on rfl rfl ?_
              refine st V.move ?_
              refine on rfl rfl ?_
              refine st (V.neqF rfl) ?_
              refine st (V.pF rfl) ?_
              refine st V.move ?_
              refine on rfl rfl ?_
              refine st V.move ?_
              refine on rfl rfl ?_
              refine st V.len ?_
              refine on rfl rfl ?_
              refine st V.move ?_
              refine on rfl rfl ?_
              refine st V.len ?_
              refine on rfl rfl ?_
              refine st (V.neqF rfl) ?_
              refine st (V.pF rfl) ?_
              refine sn ?_
              refine cond (fun h => by cases h) (fun _ => ?_)
              refine AW.skip ?_
              refine AW.seq ?_
              refine AW.region ?_
              refine st V.move ?_
              refine st V.move ?_
              refine st (V.add64 (by have := had.2.1; omega)) ?_
              refine st V.assign ?_
              refine sn ?_
              refine AW.seq ?_
              refine AW.region ?_
              refine st V.assign ?_
              refine sn ?_
              refine AW.block ?_
              refine AW.loopL [22] (158 :: 159 :: 160 :: 161 :: 162 :: 163 :: 164 :: 165 :: 166 :: 167 :: 168 :: 169 :: 170 :: 171 :: 172 :: 173 :: 174 :: 175 :: 176 :: 177 :: 178 :: 179 :: 180 :: 181 :: []) (fun n vs M' H' => ∃ (j : Nat) (Zs : List Int), vs = [.int .i64 (j : Int)] ∧ H' = .row (some ⟨g75, 0, none⟩) (ofF d ((p : Int) + 1)).length (ofF d ((p : Int) + 1)).length 3 1 ((Zs).map (.int .i64)) :: H ∧ j + n = (ofF d d[p].cons[k].fields[i]).length ∧ Cnt (ofF d ((p : Int) + 1)) L (fun x => if x ∈ (ofF d d[p].cons[k].fields[i]).take j then cntV d x d[p].cons[k].fields[i] v.args[i] else 0) Zs) ((ofF d d[p].cons[k].fields[i]).length) (⟨0, L, rfl, rfl, by omega, (Cnt.refl hL.1 hL.inW).congr fun x _ => by simp⟩) ?_
              intro n1 Ml1 Hl1 iL1 u22 hI1 u158 u159 u160 u161 u162 u163 u164 u165 u166 u167 u168 u169 u170 u171 u172 u173 u174 u175 u176 u177 u178 u179 u180 u181
              obtain ⟨j, Zs, hv', hH, hj, hS⟩ := hI1
              subst hH
              cases hv'
              refine sa ?_
              refine AW.seq ?_
              refine AW.seq ?_
              refine AW.region ?_
              refine st V.move ?_
              refine st V.move ?_
              refine st V.len ?_
              refine st V.lss ?_
              refine sn ?_
              refine cond (fun h10 => ?_) (fun h10 => ?_)
              ·
                have k10 := bp h10
                refine AW.skip ?_
                refine AW.seq ?_
                refine AW.block ?_
                have z9 : j < (ofF d d[p].cons[k].fields[i]).length := by omega
                have hx9 := of_sub hT ⟨ht0, ht1⟩ hff (List.getElem_mem z9)
                have hq := List.idxOf_lt_length_of_mem hx9
                have hsl := hS.1
                obtain ⟨b20, o20, hA20, f20⟩ := (ec20.upI (M' := Ml1)).at j (by simpa using z9)
                have f20 : Mk Ml1 b20 (o20 + j * 1) (.int .i64 (((ofF d ((p : Int) + 1)).idxOf (ofF d d[p].cons[k].fields[i])[j] : Nat) : Int)) := by simpa [RdI] using f20
                have z19 : j < (countsF d d[p].cons[k].fields[i] v.args[i]).1.length := by rw [hki.1]; exact z9
                obtain ⟨b19, o19, hA19, f19⟩ := (ec19.upI (M' := Ml1)).at j z19
                have f19 : Mk Ml1 b19 (o19 + j * 1) (.int .i64 (countsF d d[p].cons[k].fields[i] v.args[i]).1[j]) := f19
                have hkj : (countsF d d[p].cons[k].fields[i] v.args[i]).1.getD j 0 = (countsF d d[p].cons[k].fields[i] v.args[i]).1[j] := by simp [List.getD, z19]
                refine AW.regionP mx [0, 1, 2, 3, 4, 5, 6, 7, 8, 9, 10, 11, 12, 13, 14, 15, 16, 17, 18] [[], [], [], [1, 2], [1, 2, 3], [], [], [], [6, 7], [6, 7, 8], [5, 6, 7, 8, 9], [5, 6, 7, 8, 9, 10], [], [], [12, 13], [12, 13, 14], [5, 6, 7, 8, 9, 10, 11, 12, 13, 14, 15], [0, 1, 2, 3, 4, 5, 6, 7, 8, 9, 10, 11, 12, 13, 14, 15, 16], [0, 1, 2, 3, 4, 5, 6, 7, 8, 9, 10, 11, 12, 13, 14, 15, 16, 17]] (by kernel_rfl) ?_
                refine DP.p rfl rfl V.move ?_
                refine DP.p rfl rfl V.move ?_
                refine DP.p rfl rfl V.move ?_
                refine DP.p rfl rfl (V.ib j rfl z9 hA20) ?_
                refine DP.p rfl rfl V.ld ?_
                refine DP.p rfl rfl V.move ?_
                refine DP.p rfl rfl V.move ?_
                refine DP.p rfl rfl V.move ?_
                refine DP.p rfl rfl (V.ib j rfl z9 hA20) ?_
                refine DP.p rfl rfl V.ld ?_
                refine DP.p rfl rfl (V.ib ((ofF d ((p : Int) + 1)).idxOf (ofF d d[p].cons[k].fields[i])[j]) rfl hq rfl) ?_
                refine DP.lo (v := .int .i64 (Zs.getD ((ofF d ((p : Int) + 1)).idxOf (ofF d d[p].cons[k].fields[i])[j]) 0)) (hc := ⟨Cel.row (r := 0) rfl (by simp [List.getD, show (ofF d ((p : Int) + 1)).idxOf (ofF d d[p].cons[k].fields[i])[j] < Zs.length by omega])⟩) rfl ?_
                refine DP.p rfl rfl V.move ?_
                refine DP.p rfl rfl V.move ?_
                refine DP.p rfl rfl (V.ib j rfl z9 hA19) ?_
                refine DP.p rfl rfl V.ld ?_
                refine DP.p rfl rfl (V.add) ?_
                refine DP.p rfl rfl (V.ib ((ofF d ((p : Int) + 1)).idxOf (ofF d d[p].cons[k].fields[i])[j]) rfl hq rfl) ?_
                refine DP.e rfl rfl (S.storeR 0 rfl (by simp; omega) ?_)
                refine ⟨(by repeat first | exact pk0 | refine pk1 rfl ?_ | refine pk2 ?_ | refine pk3 ?_), ?_⟩
                refine DP.nl ?_
                refine AW.region ?_
                refine st V.move ?_
                refine st (V.add64 (by omega)) ?_
                refine st V.assign ?_
                refine sn ?_
                repeat with_reducible refine inb_normal ?_
                refine thn_normal ?_
                have ha := Cnt.add (g := fun x => cntV d x d[p].cons[k].fields[i] v.args[i]) hnd (of_nodup d _) hS hki z9 hx9
                rw [hkj] at ha
                exact rnd (n1 - 1) _ (by omega) (List.Sublist.refl _) ⟨j + 1, _, by simp, by simp [List.map_set], by omega, ha⟩
              ·
                have k10 := bp h10
                refine AW.exit ?_
                repeat with_reducible refine thn_exit ?_
                refine inb_exit ?_
                refine AW.region ?_
                refine st V.move ?_
                refine st (V.add64 (by omega)) ?_
                refine st V.assign ?_
                refine sn ?_
                repeat with_reducible refine inb_normal ?_
                refine thn_normal ?_
                have hS2 : Cnt (ofF d ((p : Int) + 1)) L (fun x => cntV d x d[p].cons[k].fields[i] v.args[i]) Zs := hS.congr fun x hx => by
                  rw [List.take_of_length_le (by omega)]
                  by_cases hm : x ∈ ofF d d[p].cons[k].fields[i]
                  · rw [if_pos hm]
                  · rw [if_neg hm, cnt_zero hc hT hfr hsty hx hm]
                refine rnd (n - 1) _ (by omega) (List.Sublist.refl _) ⟨i + 1, (wV d (fun (_ : Unit) _ _ => ()) d[p].cons[k].fields[i] v.args[i] s1 ()).2.1, Zs, ?_, rfl, by omega, hlei, hx1, hx2, (hL.trans hS2).congr fun x _ => by rw [cntL_take _ _ _ _ _ z6 z7]; omega⟩
                rw [show ((s1 : Int) + (((wV d (fun (_ : Unit) _ _ => ()) d[p].cons[k].fields[i] v.args[i] 0 ()).2.1 : Nat) : Int)) = (((wV d (fun (_ : Unit) _ _ => ()) d[p].cons[k].fields[i] v.args[i] s1 ()).2.1 : Nat) : Int) from by have := had.2.1; omega]
                simp
            ·
              have k8 := bp h8
              refine AW.exit ?_
              repeat with_reducible refine thn_exit ?_
              refine inb_exit ?_
              refine AW.seq ?_
              refine AW.seq ?_
              have hsn : s1 = n0 := by rw [List.drop_eq_nil_of_le (by omega : v.args.length ≤ i)] at hx2; unfold wL at hx2; exact hx2
              have hLl : (countsF d ((p : Int) + 1) v).1 = L := hcl.uniq (hL.congr fun x _ => by rw [cntV_eq, if_neg (show ¬ ((p : Int) + 1 = 0) by omega), hfe, List.take_of_length_le (by omega), List.take_of_length_le (by omega)])
              refine AW.region ?_
              refine st V.move ?_
              refine st V.move ?_
              refine st (V.neqF (by rw [hcat, hsn, hn0])) ?_
              refine sn ?_
              refine cond (fun h => by cases h) (fun _ => ?_)
              refine AW.skip ?_
              refine AW.seq ?_
              refine AW.seq ?_
              refine AW.region ?_
              refine st V.assign ?_
              refine sn ?_
              refine AW.block ?_
              refine AW.loopL [23] (6 :: 185 :: 186 :: 187 :: 188 :: 189 :: 190 :: 191 :: 192 :: 193 :: 194 :: 195 :: 196 :: 197 :: 198 :: 199 :: []) (fun n vs M' H' => ∃ i : Nat, vs = [.int .i64 (i : Int)] ∧ H' = .row (some ⟨g75, 0, none⟩) (ofF d ((p : Int) + 1)).length (ofF d ((p : Int) + 1)).length 3 1 ((L).map (.int .i64)) :: H ∧ i + n = (ofF d ((p : Int) + 1)).length) ((ofF d ((p : Int) + 1)).length) (⟨0, rfl, rfl, by omega⟩) ?_
              intro n2 Ml2 Hl2 iL2 u23 hI2 u6 u185 u186 u187 u188 u189 u190 u191 u192 u193 u194 u195 u196 u197 u198 u199
              obtain ⟨j, hv', hH, hj⟩ := hI2
              subst hH
              cases hv'
              refine sa ?_
              refine AW.seq ?_
              refine AW.seq ?_
              refine AW.region ?_
              refine st V.move ?_
              refine st V.move ?_
              refine st V.len ?_
              refine st V.lss ?_
              refine sn ?_
              refine cond (fun h12 => ?_) (fun h12 => ?_)
              ·
                have k12 := bp h12
                refine AW.skip ?_
                refine AW.seq ?_
                refine AW.block ?_
                refine AW.seq ?_
                have z9 : j < (ofF d ((p : Int) + 1)).length := by omega
                have hLlen := hL.1
                have z19 : j < (countsF d ((p : Int) + 1) v).1.length := by rw [hlen]; exact z9
                obtain ⟨b19, o19, hA19, f19⟩ := (ec1.upI (M' := Ml2)).at j z19
                have f19 : Mk Ml2 b19 (o19 + j * 1) (.int .i64 (countsF d ((p : Int) + 1) v).1[j]) := f19
                refine AW.regionD mx false [0, 1, 2, 3, 4, 5, 6, 7, 8] [[], [], [0, 1], [0, 1, 2], [], [], [4, 5], [4, 5, 6], [0, 1, 2, 3, 4, 5, 6, 7]] (by kernel_rfl) ?_
                refine D.p rfl rfl V.move ?_
                refine D.p rfl rfl V.move ?_
                refine D.p rfl rfl (V.ib j rfl z9 hA19) ?_
                first | refine D.p rfl rfl V.ld ?_ | refine D.q rfl rfl V.lo ?_
                refine D.p rfl rfl V.move ?_
                refine D.p rfl rfl V.move ?_
                refine D.p rfl rfl (V.ib j rfl z9 rfl) ?_
                refine D.q rfl rfl (V.lr (v := .int .i64 (L.getD j 0)) 0 rfl (by simp [List.getD, show j < L.length by omega])) ?_
                refine D.p rfl rfl (V.neqF (by simp [← hLl, List.getD, z19])) ?_
                refine D.nl ?_
                refine cond (fun h => by cases h) (fun _ => ?_)
                refine AW.skip ?_
                refine AW.region ?_
                refine st V.move ?_
                refine st (V.add64 (by omega)) ?_
                refine st V.assign ?_
                refine sn ?_
                repeat with_reducible refine inb_normal ?_
                refine thn_normal ?_
                exact rnd (n2 - 1) _ (by omega) (List.Sublist.refl _) ⟨j + 1, by simp, rfl, by omega⟩
              ·
                have k12 := bp h12
                refine AW.exit ?_
                repeat with_reducible refine thn_exit ?_
                refine inb_exit ?_
                refine AW.seq ?_
                refine AW.region ?_
                refine se (S.call ?_)
                refine (awake_c _ _ hGM.up).use ?_
                rintro v35 N35 G35 iz35 ⟨rfl, hG⟩
                obtain rfl := hG.symm
                refine st V.assign ?_
                refine sn ?_
                refine AW.ret ?_
                repeat with_reducible first | refine thn_ret ?_ | refine inb_ret ?_
                refine fin (Res.i1 rfl) ?_
                exact ⟨_, (by repeat first | exact List.Sublist.refl _ | apply List.Sublist.cons), rfl, rfl⟩
    ·
      have k2 := bp h2
      refine off rfl h2 ?_
      refine st (V.pT h2) ?_
      refine st V.move ?_
      refine off rfl rfl ?_
      refine off rfl rfl ?_
      refine st (V.pT rfl) ?_
      refine sn ?_
      refine cond (fun _ => ?_) (fun h => by cases h)
      refine AW.seq ?_
      refine AW.region ?_
      refine se (S.call ?_)
      refine (awake_c _ _ hGM.up).use ?_
      rintro v6 N6 G6 iz6 ⟨rfl, hG⟩
      obtain rfl := hG.symm
      refine st V.move ?_
      refine on rfl rfl ?_
      refine st V.move ?_
      refine on rfl rfl ?_
      refine st V.move ?_
      refine on rfl rfl ?_
      refine st (V.eqlT rfl) ?_
      refine st (V.pT rfl) ?_
      refine st V.assign ?_
      refine sn ?_
      refine AW.ret ?_
      repeat with_reducible first | refine thn_ret ?_ | refine inb_ret ?_
      refine fin (Res.i1 rfl) ?_
      exact ⟨_, (by repeat first | exact List.Sublist.refl _ | apply List.Sublist.cons), rfl, rfl⟩
end Go.Proofs.YtieaiheejhmbfaaGreatDoor.ML
