-- Written by a program of this session's (xprint.py) over the kit's print.
import Derived.Test.YtenjbcjekjmaeaaDoorPTokx0
import Derived.Test.YtenjbcjekjmaeaaDoorPTokx1
import Derived.Test.YtenjbcjekjmaeaaDoorPTokx9
import Derived.Test.YtenjbcjekjmaeaaDoorPTokD
import Derived.Test.YtenjbcjekjmaeaaDoorPTokx13c
namespace Go.Proofs.YtenjbcjekjmaeaaDoor.PTok
open Go.RowKit Go.Proofs.YtenjbcjekjmaeaaDoor.Ext Go.Proofs.YtenjbcjekjmaeaaDoorW.PrintWords Go.Proofs.YtenjbcjekjmaeaaDoorW.PrintLast Go.Proofs.YtenjbcjekjmaeaaDoorW.PrintMore
attribute [local go_sem high] gtr_print leq_print
attribute [local go_sem] max2_int min2_int max_two min_two max_three min_three max_four min_four   -- for this text's walks alone
set_option linter.unusedVariables false
set_option linter.unusedSimpArgs false

/-! ### token_Scan: function 11 -/
set_option maxHeartbeats 60000000 in
set_option maxRecDepth 100000 in
theorem token_Scan.calls.rest : token_Scan.calls.cut.1 := by
  intro k a0 r1 r2 r3 r4 w hu33 hu36 hz48 hu57 hG t109 A3 t110 A5 Qp_h1 nd_h1 w6 gb111 w7 GW111 GE111 w8 HB_h1 BK111_h1 K_h1 a_h1 wr u2 u3 u4 u5 u8 u9 u11 u12 u13 u14_h1 u15 u16 u17 u18 u28 u29 u30 u31 u32 u33 u34 u35 u36 u37 u38 u39 u40 u41 u42 u43 u44 u45 u46 u47 u48 u49 u50 u51 u52 u53 u54 u55 u56 u57 u58 u59 u60 u61 u62 u63 u64_h1 u65_h1 u66_h1 u67_h1 u68_h1 u69_h1 u70_h1 u71_h1 u72_h1 u73_h1 u74_h1 u75_h1 u76_h1 u77 u78 u79 u80 u81 u82 u83 u84 u85 u86 u87 u88 u89 u90 u91 u92 u93 u94 u95 u96 u97 u98 u99 u100 u101 u102 u103 u104 u105 u106 u107 u108 u109 u110 u111 u112 u113 u114 u115 u116 u117 u118 u119 u120 u121 u122 u123 u124 u125 u126 u127 u128 u129 u130 u131 u132 u133 u134 u135 u136 u137 u138 u139 u140 u141 u142 u143 u144 u145 u146 u147 u148 u149 u150 u151 u152 u153 u154 u155 u156 u157 u158 u159 u160 u161 u162 u163 u164 u165 u166 u167 u168 u169 u170 u171 u172 u173 u174 u175 u176 u177 u178 u179 u180 u181 u182 u183 u184 u185 u186 u187 u188 u189 u190 J_h1 K_h2 a_h2 x8_1 x9_1 x10_1 HO_8 HO_9 BK111 HB k1 a_h3 HK1 c9b0 c10b0 c12b0 c13b0 c13b1 bz115 hbz115 t116 A14 hbz117 A16 HC24 hx11 p11 q11 nd_h2 nd K_h3 a_h4 wc u14 u64 u65 u66 u67 u68 u69 u70 u71 u72 u73 u74 u75 u76 hcut
  clear HC24
  try clear c1
  try clear p1
  try clear q1
  try clear hx1
  try clear c2
  try clear c2b0
  try clear c2b1
  try clear p2
  try clear q2
  try clear hx2
  try clear c3
  try clear p3
  try clear c4
  try clear c4b0
  try clear p6
  try clear c9
  try clear c9b0
  try clear c10
  try clear c10b0
  try clear c11
  try clear p11
  try clear q11
  try clear hx11
  try clear c12
  try clear c12b0
  try clear c13
  try clear c13b0
  try clear c13b1
  try clear c15
  try clear c17
  try clear c19
  try clear c19b0
  try clear c20
  try clear c21
  try clear c22
  try clear c23
  try clear c25
  try clear c25b0
  try clear c26
  try clear c26b0
  try clear p27
  try clear q27
  try clear hx27
  try clear c28
  try clear c28b0
  try clear c29
  try clear c29b0
  try clear c30
  try clear c30b0
  try clear p1
  try clear p11
  try clear p2
  try clear p27
  try clear p3
  try clear p6
  try clear q1
  try clear q11
  try clear q27
  obtain ⟨kq, x14_23, rfl, HA, HJ23, HO_8, HO_9, BK111, HB⟩ := hcut
  cases kq with
  | zero => exact absurd HA.out (by simp [token_Scan.j2])
  | succ kj23 =>
    have H := HA.out
    clear HA
    simp only [token_Scan.j2] at H
    have HC33 := Aside0.mk H
    clear H
    go_upto_region 31 with (first | ((with_reducible refine gate_dst (N := 15) rfl ?_); (try (refine gate_guard (by rfl) ?_; dsimp only)); refine box_event ?hg (N := 15) ?hd (cs := #[.int .i64 0, .string (⟨#[]⟩ : ByteArray), .int .i64 0, .int .i64 0]) (t := 36) ?hr ?_; (case hd => rfl); (case hg => rfl); (case hr => first | (go_simp; done) | (go_simp; rfl)); intro gb126 hg w34 hbox hb; have n0_ := Aside0.mk (Kd.R_below (Kd.R_elderB (by (with_reducible repeat (first | apply Kd.R_alloc | apply Kd.R_drewN | apply Kd.R_drew)); exact HO_8.out) gb126 (Nat.le_of_eq hg.symm)) hb); have n1_ := Aside0.mk (Kd.R_below (by (with_reducible repeat (first | apply Kd.R_alloc | apply Kd.R_drewN | apply Kd.R_drew)); exact HO_9.out) hb); have n2_ := Aside0.mk (blk_below (g := gb111) (o := .cells (arrB t110) 48 (0, 0)) (by (with_reducible repeat (first | refine blk_drewN ?_ _ | refine blk_drew ?_ | refine blk_alloc ?_ _)); exact BK111.out) hb); have n3_ := Aside0.mk (below_step (by repeat (first | (with_reducible first | exact HB.out | apply below_alloc | apply pw_below_drewN | apply below_drew1 | refine below_set ?_ GE111.out) | exact HB.out)) hb); have n4_ := Aside0.mk (hbox); have n5_ := Aside0.mk ((by rw [hg]; exact (below_size (by repeat (first | (with_reducible first | exact HB.out | apply below_alloc | apply pw_below_drewN | apply below_drew1 | refine below_set ?_ GE111.out) | exact HB.out))) : w.heap.size ≤ gb126)); have n6_ := Aside0.mk ((by rw [hg]; exact (below_size (by repeat (first | (with_reducible first | exact HB.out | apply below_alloc | apply pw_below_drewN | apply below_drew1 | refine below_set ?_ GE111.out) | exact HB.out))) : w.heap.size ≤ gb126)); have n7_ := Aside0.mk ((by rw [hg]; exact Nat.ne_of_lt (blk_lt (g := gb111) (o := .cells (arrB t110) 48 (0, 0)) (by (with_reducible repeat (first | refine blk_drewN ?_ _ | refine blk_drew ?_ | refine blk_alloc ?_ _)); exact BK111.out)) : gb111 ≠ gb126)); have n8_ := Aside0.mk ((by rw [hg]; exact Nat.ne_of_gt (blk_lt (g := gb111) (o := .cells (arrB t110) 48 (0, 0)) (by (with_reducible repeat (first | refine blk_drewN ?_ _ | refine blk_drew ?_ | refine blk_alloc ?_ _)); exact BK111.out)) : gb126 ≠ gb111)); clear HO_8; clear HO_9; clear BK111; clear HB; have HO_8 := n0_; have HO_9 := n1_; have BK111 := n2_; have HB := n3_; have BK126 := n4_; have GW126 := n5_; have GE126 := n6_; have NB111_126 := n7_; have NB126_111 := n8_; clear n0_ n1_ n2_ n3_ n4_ n5_ n6_ n7_ n8_; clear hb hbox hg))
    (try simp only [Act.put, List.setIfInBounds_toArray, List.set_cons_zero, List.set_cons_succ])
    go_cut [93] (fun v93 wc => ∃ (kq : Nat) (x93_32 : Bool), v93 = .bool x93_32 ∧ Aside0 (token_Scan.j3 kq a0 x8_1 x9_1 x10_1 (bt a0 x10_1) bz115 x14_23 x93_32 t110 = some (r1, r2, r3, r4)) ∧ Aside0 (kq ≤ kj23) ∧ Aside0 (Kd.R k36 36 wc w.heap.size (fun k_ => k_ ≠ gb126) u8 x8_1) ∧ Aside0 (Kd.R k33 33 wc w.heap.size (fun _ => True) u9 x9_1) ∧ Aside0 (wc.heap[gb111]? = some (.cells (arrB t110) 48 (0, 0))) ∧ Aside0 (wc.heap[gb126]? = some (.cells #[.int .i64 0, .string (⟨#[]⟩ : ByteArray), .int .i64 0, .int .i64 0] 36 (0, 0))) ∧ Aside0 (Below w.heap.size w wc))
    case first =>
      have H := HC33.out
      clear HC33
      by_cases c35 : (bt a0 x10_1) = 95
      · rw [if_pos c35] at H
        have c35b0 : ((bt a0 x10_1) == 95) = true := beq_iff_eq.mpr c35
        have c35b1 : ((bt a0 x10_1) != 95) = false := bne_eq_false_iff_eq.mpr c35
        clear c35
        (first | rw [c35b0] | (simp only [i64_w, i32_w]; rw [c35b0]) | skip)
        have H' := Aside0.mk H
        clear H
        go_wp2
        go_meet
        case rel => exact ⟨_, (false), (by first | rfl | (simp; done) | (simp [*]; done)), H', ⟨by have := HK1.out; have := HJ23.out; first | omega | exact Nat.le_refl _⟩, ⟨by (with_reducible repeat (first | apply Kd.R_alloc | apply Kd.R_drewN | apply Kd.R_drew)); exact Kd.R_mono HO_8.out (fun _ hk => hk.2)⟩, ⟨by (with_reducible repeat (first | apply Kd.R_alloc | apply Kd.R_drewN | apply Kd.R_drew)); exact HO_9.out⟩, ⟨by (with_reducible repeat (first | refine blk_drewN ?_ _ | refine blk_drew ?_ | refine blk_alloc ?_ _)); exact BK111.out⟩, ⟨by (with_reducible repeat (first | refine blk_drewN ?_ _ | refine blk_drew ?_ | refine blk_alloc ?_ _)); exact BK126.out⟩, ⟨by repeat (first | (with_reducible first | exact HB.out | apply below_alloc | apply pw_below_drewN | apply below_drew1 | refine below_set ?_ GE111.out | refine below_set ?_ GE126.out) | exact HB.out)⟩⟩
      · rw [if_neg c35] at H
        have c35b0 : ((bt a0 x10_1) == 95) = false := beq_eq_false_iff_ne.mpr c35
        have c35b1 : ((bt a0 x10_1) != 95) = true := bne_iff_ne.mpr c35
        (first | rw [c35b0] | (simp only [i64_w, i32_w]; rw [c35b0]) | skip)
        by_cases c36 : 0 ≤ (bt a0 x10_1)
        · rw [if_pos c36] at H
          have c36b0 : decide (0 ≤ (bt a0 x10_1)) = true := decide_eq_true c36
          clear c36
          by_cases c37 : (bt a0 x10_1) < 256
          · rw [if_pos c37] at H
            have c37b0 : decide ((bt a0 x10_1) < 256) = true := decide_eq_true c37
            clear c37
            by_cases c38 : (t110 ((bt a0 x10_1) : Int).toNat) = true
            · rw [if_pos c38] at H
              have c38b0 : (t110 ((bt a0 x10_1) : Int).toNat) = true := c38
              clear c38
              replace H := Option.bind_eq_some_iff.mp H
              obtain ⟨t127, A390, H⟩ := H
              replace H : ((some (!t127)).bind fun bz128 => (token_Scan.j3 kj23 a0 x8_1 x9_1 x10_1 (bt a0 x10_1) bz115 x14_23 bz128 t110)) = some (r1, r2, r3, r4) := H
              have A39 := Aside0.mk A390
              clear A390
              replace H := Option.bind_eq_some_iff.mp H
              obtain ⟨bz128, hbz1280, H⟩ := H
              replace H : (token_Scan.j3 kj23 a0 x8_1 x9_1 x10_1 (bt a0 x10_1) bz115 x14_23 bz128 t110) = some (r1, r2, r3, r4) := H
              have hbz128 : (!t127) = bz128 := Option.some.inj hbz1280
              clear hbz1280
              have H' := Aside0.mk H
              clear H
              have hczz40_0 : w34.cell? ⟨gb111, ((bt a0 x10_1)).toNat, none⟩ = some (.bool (t110 ((bt a0 x10_1) : Int).toNat)) := arrb_cell BK111.out (bt a0 x10_1) (by first | (with_reducible assumption) | omega | (first | exact bt_nonneg _ _)) (by first | (with_reducible assumption) | exact bt_lt _ _ | omega)
              have hfzz40_0 := blk_frozen BK111.out ((bt a0 x10_1)).toNat
              have hidzz40 : (0 ≤ (bt a0 x10_1) ∧ (bt a0 x10_1) < 256) = True := eq_true ⟨by first | (with_reducible assumption) | exact bt_nonneg _ _ | omega, by first | (with_reducible assumption) | exact bt_lt _ _ | omega⟩
              go_wp2_with (first | (go_at_call 24; (with_reducible refine (token_digit.calls (bt a0 x10_1) t127 _ ?side1 A39.out).mono ?_); (case side1 => exact GOK.below hG.out (by first | exact HB.out | (repeat (first | (with_reducible first | exact HB.out | apply below_alloc | apply pw_below_drewN | apply below_drew1 | refine below_set ?_ GE111.out | refine below_set ?_ GE126.out) | exact HB.out)))); rintro e w' ⟨rfl, ⟨nd, rfl⟩⟩))
              go_meet
              case rel => exact ⟨_, (bz128), (by first | rfl | (simp; done) | (simp [*]; done)), H', ⟨by have := HK1.out; have := HJ23.out; first | omega | exact Nat.le_refl _⟩, ⟨by (with_reducible repeat (first | apply Kd.R_alloc | apply Kd.R_drewN | apply Kd.R_drew)); exact Kd.R_mono HO_8.out (fun _ hk => hk.2)⟩, ⟨by (with_reducible repeat (first | apply Kd.R_alloc | apply Kd.R_drewN | apply Kd.R_drew)); exact HO_9.out⟩, ⟨by (with_reducible repeat (first | refine blk_drewN ?_ _ | refine blk_drew ?_ | refine blk_alloc ?_ _)); exact BK111.out⟩, ⟨by (with_reducible repeat (first | refine blk_drewN ?_ _ | refine blk_drew ?_ | refine blk_alloc ?_ _)); exact BK126.out⟩, ⟨by repeat (first | (with_reducible first | exact HB.out | apply below_alloc | apply pw_below_drewN | apply below_drew1 | refine below_set ?_ GE111.out | refine below_set ?_ GE126.out) | exact HB.out)⟩⟩
            · rw [if_neg c38] at H
              have c38b0 : (t110 ((bt a0 x10_1) : Int).toNat) = false := by simpa using c38
              clear c38
              have H' := Aside0.mk H
              clear H
              have hczz41_0 : w34.cell? ⟨gb111, ((bt a0 x10_1)).toNat, none⟩ = some (.bool (t110 ((bt a0 x10_1) : Int).toNat)) := arrb_cell BK111.out (bt a0 x10_1) (by first | (with_reducible assumption) | omega | (first | exact bt_nonneg _ _)) (by first | (with_reducible assumption) | exact bt_lt _ _ | omega)
              have hfzz41_0 := blk_frozen BK111.out ((bt a0 x10_1)).toNat
              have hidzz41 : (0 ≤ (bt a0 x10_1) ∧ (bt a0 x10_1) < 256) = True := eq_true ⟨by first | (with_reducible assumption) | exact bt_nonneg _ _ | omega, by first | (with_reducible assumption) | exact bt_lt _ _ | omega⟩
              go_wp2
              go_meet
              case rel => exact ⟨_, (false), (by first | rfl | (simp; done) | (simp [*]; done)), H', ⟨by have := HK1.out; have := HJ23.out; first | omega | exact Nat.le_refl _⟩, ⟨by (with_reducible repeat (first | apply Kd.R_alloc | apply Kd.R_drewN | apply Kd.R_drew)); exact Kd.R_mono HO_8.out (fun _ hk => hk.2)⟩, ⟨by (with_reducible repeat (first | apply Kd.R_alloc | apply Kd.R_drewN | apply Kd.R_drew)); exact HO_9.out⟩, ⟨by (with_reducible repeat (first | refine blk_drewN ?_ _ | refine blk_drew ?_ | refine blk_alloc ?_ _)); exact BK111.out⟩, ⟨by (with_reducible repeat (first | refine blk_drewN ?_ _ | refine blk_drew ?_ | refine blk_alloc ?_ _)); exact BK126.out⟩, ⟨by repeat (first | (with_reducible first | exact HB.out | apply below_alloc | apply pw_below_drewN | apply below_drew1 | refine below_set ?_ GE111.out | refine below_set ?_ GE126.out) | exact HB.out)⟩⟩
          · rw [if_neg c37] at H
            exact absurd H (by simp)
        · rw [if_neg c36] at H
          exact absurd H (by simp)
    case rest =>
      clear HC33
      try clear c1
      try clear p1
      try clear q1
      try clear hx1
      try clear c2
      try clear c2b0
      try clear c2b1
      try clear p2
      try clear q2
      try clear hx2
      try clear c3
      try clear p3
      try clear c4
      try clear c4b0
      try clear p6
      try clear c9
      try clear c9b0
      try clear c10
      try clear c10b0
      try clear c11
      try clear p11
      try clear q11
      try clear hx11
      try clear c12
      try clear c12b0
      try clear c13
      try clear c13b0
      try clear c13b1
      try clear c15
      try clear c17
      try clear c19
      try clear c19b0
      try clear c20
      try clear c21
      try clear c22
      try clear c23
      try clear c25
      try clear c25b0
      try clear c26
      try clear c26b0
      try clear p27
      try clear q27
      try clear hx27
      try clear c28
      try clear c28b0
      try clear c29
      try clear c29b0
      try clear c30
      try clear c30b0
      try clear c35
      try clear c35b0
      try clear c35b1
      try clear c36
      try clear c36b0
      try clear c37
      try clear c37b0
      try clear c38
      try clear c38b0
      try clear p1
      try clear p11
      try clear p2
      try clear p27
      try clear p3
      try clear p6
      try clear q1
      try clear q11
      try clear q2
      try clear q27
      obtain ⟨kq, x93_32, rfl, HA, HJ32, HO_8, HO_9, BK111, BK126, HB⟩ := hcut
      cases kq with
      | zero => exact absurd HA.out (by simp [token_Scan.j3])
      | succ kj32 =>
        have H := HA.out
        clear HA
        simp only [token_Scan.j3] at H
        by_cases c42 : x93_32 = true
        · subst c42
          have H1 : (if 0 ≤ x14_23 then (if x14_23 ≤ (bz115.size : Int) then ((token_word.f (bz115.extract 0 (x14_23 : Int).toNat)).bind fun bt129 => (if bt129.2.2.2.2 = 0 then (if x8_1.length < 3518437208883 then (token_Scan.l0 kj32 a0 (x8_1 ++ [(⟨bt129.1, bt129.2.1, (⟨x10_1, wrap64 (x10_1 + x14_23)⟩ : S33)⟩ : S36)]) x9_1 (wrap64 (x10_1 + x14_23)) t110) else (none)) else (some (([] : List (S36)), ([] : List (S33)), x10_1, bt129.2.2.2.2)))) else (none)) else (none)) = some (r1, r2, r3, r4) := by rw [if_pos rfl] at H; exact H
          clear H
          have H := H1
          clear H1
          by_cases c43 : 0 ≤ x14_23
          · rw [if_pos c43] at H
            have c43b0 := eq_true c43
            have c43b1 : decide (0 ≤ x14_23) = true := decide_eq_true c43
            clear c43
            by_cases c44 : x14_23 ≤ (bz115.size : Int)
            · rw [if_pos c44] at H
              have c44b0 := eq_true c44
              have c44b1 : decide (x14_23 ≤ (bz115.size : Int)) = true := decide_eq_true c44
              clear c44
              replace H := Option.bind_eq_some_iff.mp H
              obtain ⟨⟨t129, t130, t131, t132, t133⟩, A450, H⟩ := H
              replace H : (if t133 = 0 then (if x8_1.length < 3518437208883 then (token_Scan.l0 kj32 a0 (x8_1 ++ [(⟨t129, t130, (⟨x10_1, wrap64 (x10_1 + x14_23)⟩ : S33)⟩ : S36)]) x9_1 (wrap64 (x10_1 + x14_23)) t110) else (none)) else (some (([] : List (S36)), ([] : List (S33)), x10_1, t133))) = some (r1, r2, r3, r4) := H
              have A45 := Aside0.mk A450
              clear A450
              by_cases c46 : t133 = 0
              · rw [if_pos c46] at H
                have c46b0 : (t133 == 0) = true := beq_iff_eq.mpr c46
                have c46b1 : (t133 != 0) = false := bne_eq_false_iff_eq.mpr c46
                clear c46
                by_cases c47 : x8_1.length < 3518437208883
                · rw [if_pos c47] at H
                  have LMc47 := Aside0.mk c47
                  clear c47
                  obtain ⟨y134, hy134⟩ : ∃ y_ : List (S36), y_ = (x8_1 ++ [(⟨t129, t130, (⟨x10_1, wrap64 (x10_1 + x14_23)⟩ : S33)⟩ : S36)]) := ⟨_, rfl⟩
                  replace H : (token_Scan.l0 kj32 a0 y134 x9_1 (wrap64 (x10_1 + x14_23)) t110) = some (r1, r2, r3, r4) := by first | (rw [hy134]; with_reducible exact H) | (have H2_ := (Option.bind_some _ _).symm.trans H; rw [hy134]; with_reducible exact H2_) | (have H2_ := (Option.bind_some _ _).symm.trans H; with_reducible exact H2_) | with_reducible exact H | (rw [hy134]; exact H) | exact H
                  have Ny134 := Aside0.mk hy134
                  clear hy134
                  have H' := Aside0.mk H
                  clear H
                  go_wp2_with (first | ((with_reducible refine gate_callee (f := 25) rfl ?_); refine goesL_ (some 110) rfl rfl Tryd.func25 (by as_aux_lemma => kernel_rfl) rfl #[.string (bz115.extract 0 (x14_23 : Int).toNat)] rfl (by (try simp only [List.map_toArray, List.map_cons, List.map_nil]); first | done | rfl | (simp only [List.length_drop, List.length_take]; rfl)) ?_; (with_reducible refine (token_word.calls (bz115.extract 0 (x14_23 : Int).toNat) t129 t130 t131 t132 t133 _ ?side1 A45.out).mono ?_); (case side1 => exact GOK.below hG.out (by first | exact HB.out | (repeat (first | (with_reducible first | exact HB.out | apply below_alloc | apply pw_below_drewN | apply below_drew1 | refine below_set ?_ GE111.out | refine below_set ?_ GE126.out) | exact HB.out)))); rintro e w48 ⟨rfl, hb⟩; refine ⟨_, rfl, ?_⟩; have n0_ := Aside0.mk (Kd.R_below (by (with_reducible repeat (first | apply Kd.R_alloc | apply Kd.R_drewN | apply Kd.R_drew)); exact HO_8.out) hb); have n1_ := Aside0.mk (Kd.R_below (by (with_reducible repeat (first | apply Kd.R_alloc | apply Kd.R_drewN | apply Kd.R_drew)); exact HO_9.out) hb); have n2_ := Aside0.mk (blk_below (g := gb111) (o := .cells (arrB t110) 48 (0, 0)) (by (with_reducible repeat (first | refine blk_drewN ?_ _ | refine blk_drew ?_ | refine blk_alloc ?_ _)); exact BK111.out) hb); have n3_ := Aside0.mk (blk_below (g := gb126) (o := .cells #[.int .i64 0, .string (⟨#[]⟩ : ByteArray), .int .i64 0, .int .i64 0] 36 (0, 0)) (by (with_reducible repeat (first | refine blk_drewN ?_ _ | refine blk_drew ?_ | refine blk_alloc ?_ _)); exact BK126.out) hb); have n4_ := Aside0.mk (below_step (by repeat (first | (with_reducible first | exact HB.out | apply below_alloc | apply pw_below_drewN | apply below_drew1 | refine below_set ?_ GE111.out | refine below_set ?_ GE126.out) | exact HB.out)) hb); clear HO_8; clear HO_9; clear BK111; clear BK126; clear HB; have HO_8 := n0_; have HO_9 := n1_; have BK111 := n2_; have BK126 := n3_; have HB := n4_; clear n0_ n1_ n2_ n3_ n4_; (try clear hb); (try clear hb2); (try clear hk); (try clear hi); have hnb49 := NB126_111.out; have hnc49 := NB111_126.out; have hcz50_0 : w48.cell? ⟨gb126, 0, none⟩ = some (.int .i64 0) := (blk_cell BK126.out 0).trans rfl; have hcz50_1 : w48.cell? ⟨gb126, 1, none⟩ = some (.string (⟨#[]⟩ : ByteArray)) := (blk_cell BK126.out 1).trans rfl; have hcz50_2 : w48.cell? ⟨gb126, 2, none⟩ = some (.int .i64 0) := (blk_cell BK126.out 2).trans rfl; have hcz50_3 : w48.cell? ⟨gb126, 3, none⟩ = some (.int .i64 0) := (blk_cell BK126.out 3).trans rfl; have hfz50_0 := blk_frozen BK126.out 0; have hfz50_1 := blk_frozen BK126.out 1; have hfz50_2 := blk_frozen BK126.out 2; have hfz50_3 := blk_frozen BK126.out 3; have hq0_ := blk_put (cs' := #[.int .i64 t129, .string (⟨#[]⟩ : ByteArray), .int .i64 0, .int .i64 0]) BK126.out 0 (.int .i64 t129) rfl; have hq1_ := blk_put (cs' := #[.int .i64 t129, .string t130, .int .i64 0, .int .i64 0]) hq0_ 1 (.string t130) rfl; have hq2_ := blk_put (cs' := #[.int .i64 t129, .string t130, .int .i64 t131, .int .i64 0]) hq1_ 2 (.int .i64 t131) rfl; have hq3_ := blk_put (cs' := #[.int .i64 t129, .string t130, .int .i64 t131, .int .i64 t132]) hq2_ 3 (.int .i64 t132) rfl; have hdz_0 : ((((w48.setCell ⟨gb126, 0, none⟩ (.int .i64 t129)).setCell ⟨gb126, 1, none⟩ (.string t130)).setCell ⟨gb126, 2, none⟩ (.int .i64 t131)).setCell ⟨gb126, 3, none⟩ (.int .i64 t132)).cell? ⟨gb126, 0, none⟩ = some (.int .i64 t129) := (blk_cell hq3_ 0).trans rfl; have hdz_1 : ((((w48.setCell ⟨gb126, 0, none⟩ (.int .i64 t129)).setCell ⟨gb126, 1, none⟩ (.string t130)).setCell ⟨gb126, 2, none⟩ (.int .i64 t131)).setCell ⟨gb126, 3, none⟩ (.int .i64 t132)).cell? ⟨gb126, 1, none⟩ = some (.string t130) := (blk_cell hq3_ 1).trans rfl; have hdz_2 : ((((w48.setCell ⟨gb126, 0, none⟩ (.int .i64 t129)).setCell ⟨gb126, 1, none⟩ (.string t130)).setCell ⟨gb126, 2, none⟩ (.int .i64 t131)).setCell ⟨gb126, 3, none⟩ (.int .i64 t132)).cell? ⟨gb126, 2, none⟩ = some (.int .i64 t131) := (blk_cell hq3_ 2).trans rfl; have hdz_3 : ((((w48.setCell ⟨gb126, 0, none⟩ (.int .i64 t129)).setCell ⟨gb126, 1, none⟩ (.string t130)).setCell ⟨gb126, 2, none⟩ (.int .i64 t131)).setCell ⟨gb126, 3, none⟩ (.int .i64 t132)).cell? ⟨gb126, 3, none⟩ = some (.int .i64 t132) := (blk_cell hq3_ 3).trans rfl; clear hq0_ hq1_ hq2_ hq3_) | ((with_reducible refine gate_builtin (b := .append) (xs := #[.tmp 184, .tmp 186]) rfl ?_); (try (refine gate_guard (by rfl) ?_; dsimp only)); at_builtin; refine Kd.R_append k36 (w0 := w) w.heap.size rfl (.tmp 184) (.tmp 186) 23 36 (.agg #[(.int .i64 0), (.string ⟨#[]⟩), (.int .i64 0), (.int .i64 0)]) 40 rfl Tryd.underlying23 info36 rfl (by decide) (by omega) u8 x8_1 (⟨t129, t130, (⟨x10_1, wrap64 (x10_1 + x14_23)⟩ : S33)⟩ : S36) [.int .i64 t129, .string t130, .int .i64 x10_1, .int .i64 (wrap64 (x10_1 + x14_23))] (fun k_ => k_ ≠ gb126) (fun _ => False) rfl (by first | (go_simp; done) | (go_simp; rfl)) ?aP (fun _ hk => hk.elim) ?aF ?aO ?aB ?aS ?aL ?_; (case aP => exact k36_mkM _ _ _ (⟨t129, t130, (⟨x10_1, wrap64 (x10_1 + x14_23)⟩ : S33)⟩ : S36)); (case aB => exact (by repeat (first | (with_reducible first | exact HB.out | apply below_alloc | apply pw_below_drewN | apply below_drew1 | refine below_set ?_ GE111.out | refine below_set ?_ GE126.out) | exact HB.out))); (case aF => exact (fun k_ hk => Kd.freshB (g := gb126) (o := .cells #[.int .i64 t129, .string t130, .int .i64 x10_1, .int .i64 (wrap64 (x10_1 + x14_23))] 36 (0, 0)) (by (with_reducible repeat (first | refine blk_drewN ?_ _ | refine blk_drew ?_ | refine blk_alloc ?_ _)); refine blk_put (cs := #[.int .i64 t129, .string t130, .int .i64 x10_1, .int .i64 t132]) ?_ 3 _ rfl; (with_reducible repeat (first | refine blk_drewN ?_ _ | refine blk_drew ?_ | refine blk_alloc ?_ _)); refine blk_put (cs := #[.int .i64 t129, .string t130, .int .i64 t131, .int .i64 t132]) ?_ 2 _ rfl; (with_reducible repeat (first | refine blk_drewN ?_ _ | refine blk_drew ?_ | refine blk_alloc ?_ _)); refine blk_put (cs := #[.int .i64 t129, .string t130, .int .i64 t131, .int .i64 0]) ?_ 3 _ rfl; (with_reducible repeat (first | refine blk_drewN ?_ _ | refine blk_drew ?_ | refine blk_alloc ?_ _)); refine blk_put (cs := #[.int .i64 t129, .string t130, .int .i64 0, .int .i64 0]) ?_ 2 _ rfl; (with_reducible repeat (first | refine blk_drewN ?_ _ | refine blk_drew ?_ | refine blk_alloc ?_ _)); refine blk_put (cs := #[.int .i64 t129, .string (⟨#[]⟩ : ByteArray), .int .i64 0, .int .i64 0]) ?_ 1 _ rfl; (with_reducible repeat (first | refine blk_drewN ?_ _ | refine blk_drew ?_ | refine blk_alloc ?_ _)); refine blk_put (cs := #[.int .i64 0, .string (⟨#[]⟩ : ByteArray), .int .i64 0, .int .i64 0]) ?_ 0 _ rfl; (with_reducible repeat (first | refine blk_drewN ?_ _ | refine blk_drew ?_ | refine blk_alloc ?_ _)); exact BK126.out) k_ hk)); (case aO => exact (by (with_reducible repeat (first | apply Kd.R_alloc | apply Kd.R_drewN | apply Kd.R_drew)); exact Kd.R_mono (Kd.R_far (p := ⟨gb126, 3, none⟩) (Kd.R_far (p := ⟨gb126, 2, none⟩) (Kd.R_far (p := ⟨gb126, 3, none⟩) (Kd.R_far (p := ⟨gb126, 2, none⟩) (Kd.R_far (p := ⟨gb126, 1, none⟩) (Kd.R_far (p := ⟨gb126, 0, none⟩) (Kd.R_mono HO_8.out (fun k_ hk => (⟨hk, hk⟩ : _ ∧ k_ ≠ gb126))) (fun _ hk => hk.2) (.int .i64 t129)) (fun _ hk => hk.2) (.string t130)) (fun _ hk => hk.2) (.int .i64 t131)) (fun _ hk => hk.2) (.int .i64 t132)) (fun _ hk => hk.2) (.int .i64 x10_1)) (fun _ hk => hk.2) (.int .i64 (wrap64 (x10_1 + x14_23)))) (fun _ hk => hk.1))); (case aS => exact (below_size (by repeat (first | (with_reducible first | exact HB.out | apply below_alloc | apply pw_below_drewN | apply below_drew1 | refine below_set ?_ GE111.out | refine below_set ?_ GE126.out) | exact HB.out)))); (case aL => have := LMc47.out; omega); intro v135 w51 ho hb hg hat; rw [← Ny134.out] at ho; have n0_ := Aside0.mk (Kd.R_over' (by (with_reducible repeat (first | apply Kd.R_alloc | apply Kd.R_drewN | apply Kd.R_drew)); exact (Kd.R_mono (Kd.R_far (p := ⟨gb126, 3, none⟩) (Kd.R_far (p := ⟨gb126, 2, none⟩) (Kd.R_far (p := ⟨gb126, 3, none⟩) (Kd.R_far (p := ⟨gb126, 2, none⟩) (Kd.R_far (p := ⟨gb126, 1, none⟩) (Kd.R_far (p := ⟨gb126, 0, none⟩) (Kd.R_types HO_9.out BK126.out (by decide)) (fun _ hk => hk.2) (.int .i64 t129)) (fun _ hk => hk.2) (.string t130)) (fun _ hk => hk.2) (.int .i64 t131)) (fun _ hk => hk.2) (.int .i64 t132)) (fun _ hk => hk.2) (.int .i64 x10_1)) (fun _ hk => hk.2) (.int .i64 (wrap64 (x10_1 + x14_23)))) (fun _ h_ => h_.1))) (Kd.R_typed (by (with_reducible repeat (first | apply Kd.R_alloc | apply Kd.R_drewN | apply Kd.R_drew)); exact (Kd.R_mono (Kd.R_far (p := ⟨gb126, 3, none⟩) (Kd.R_far (p := ⟨gb126, 2, none⟩) (Kd.R_far (p := ⟨gb126, 3, none⟩) (Kd.R_far (p := ⟨gb126, 2, none⟩) (Kd.R_far (p := ⟨gb126, 1, none⟩) (Kd.R_far (p := ⟨gb126, 0, none⟩) (Kd.R_mono HO_8.out (fun k_ hk => (⟨hk, hk⟩ : _ ∧ k_ ≠ gb126))) (fun _ hk => hk.2) (.int .i64 t129)) (fun _ hk => hk.2) (.string t130)) (fun _ hk => hk.2) (.int .i64 t131)) (fun _ hk => hk.2) (.int .i64 t132)) (fun _ hk => hk.2) (.int .i64 x10_1)) (fun _ hk => hk.2) (.int .i64 (wrap64 (x10_1 + x14_23)))) (fun _ h_ => h_.1)))) (by decide) hg); have n1_ := Aside0.mk (blk_grown (g := gb111) (o := .cells (arrB t110) 48 (0, 0)) (by (with_reducible repeat (first | refine blk_drewN ?_ _ | refine blk_drew ?_ | refine blk_alloc ?_ _)); refine blk_far ?_ NB111_126.out _; (with_reducible repeat (first | refine blk_drewN ?_ _ | refine blk_drew ?_ | refine blk_alloc ?_ _)); refine blk_far ?_ NB111_126.out _; (with_reducible repeat (first | refine blk_drewN ?_ _ | refine blk_drew ?_ | refine blk_alloc ?_ _)); refine blk_far ?_ NB111_126.out _; (with_reducible repeat (first | refine blk_drewN ?_ _ | refine blk_drew ?_ | refine blk_alloc ?_ _)); refine blk_far ?_ NB111_126.out _; (with_reducible repeat (first | refine blk_drewN ?_ _ | refine blk_drew ?_ | refine blk_alloc ?_ _)); refine blk_far ?_ NB111_126.out _; (with_reducible repeat (first | refine blk_drewN ?_ _ | refine blk_drew ?_ | refine blk_alloc ?_ _)); refine blk_far ?_ NB111_126.out _; (with_reducible repeat (first | refine blk_drewN ?_ _ | refine blk_drew ?_ | refine blk_alloc ?_ _)); exact BK111.out) hg (Kd.R_ne HO_8.out BK111.out (by decide))); have n2_ := Aside0.mk (blk_grown (g := gb126) (o := .cells #[.int .i64 t129, .string t130, .int .i64 x10_1, .int .i64 (wrap64 (x10_1 + x14_23))] 36 (0, 0)) (by (with_reducible repeat (first | refine blk_drewN ?_ _ | refine blk_drew ?_ | refine blk_alloc ?_ _)); refine blk_put (cs := #[.int .i64 t129, .string t130, .int .i64 x10_1, .int .i64 t132]) ?_ 3 _ rfl; (with_reducible repeat (first | refine blk_drewN ?_ _ | refine blk_drew ?_ | refine blk_alloc ?_ _)); refine blk_put (cs := #[.int .i64 t129, .string t130, .int .i64 t131, .int .i64 t132]) ?_ 2 _ rfl; (with_reducible repeat (first | refine blk_drewN ?_ _ | refine blk_drew ?_ | refine blk_alloc ?_ _)); refine blk_put (cs := #[.int .i64 t129, .string t130, .int .i64 t131, .int .i64 0]) ?_ 3 _ rfl; (with_reducible repeat (first | refine blk_drewN ?_ _ | refine blk_drew ?_ | refine blk_alloc ?_ _)); refine blk_put (cs := #[.int .i64 t129, .string t130, .int .i64 0, .int .i64 0]) ?_ 2 _ rfl; (with_reducible repeat (first | refine blk_drewN ?_ _ | refine blk_drew ?_ | refine blk_alloc ?_ _)); refine blk_put (cs := #[.int .i64 t129, .string (⟨#[]⟩ : ByteArray), .int .i64 0, .int .i64 0]) ?_ 1 _ rfl; (with_reducible repeat (first | refine blk_drewN ?_ _ | refine blk_drew ?_ | refine blk_alloc ?_ _)); refine blk_put (cs := #[.int .i64 0, .string (⟨#[]⟩ : ByteArray), .int .i64 0, .int .i64 0]) ?_ 0 _ rfl; (with_reducible repeat (first | refine blk_drewN ?_ _ | refine blk_drew ?_ | refine blk_alloc ?_ _)); exact BK126.out) hg (Kd.R_away HO_8.out (fun _ hk => hk))); have n3_ := Aside0.mk (hb); have n4_ := Aside0.mk (ho); clear HO_9; clear BK111; clear BK126; clear HB; clear HO_8; have HO_9 := n0_; have BK111 := n1_; have BK126 := n2_; have HB := n3_; have HO136 := n4_; clear n0_ n1_ n2_ n3_ n4_; clear ho hb hg hat))
                  go_roundg kj32
                  case measure => have := HK1.out; have := HJ23.out; have := HJ32.out; omega
                  case rel => exact ⟨(y134), (x9_1), (wrap64 (x10_1 + x14_23)), (by first | rfl | (simp; done) | (simp [*]; done)), H', ⟨by have := HK1.out; have := HJ23.out; have := HJ32.out; omega⟩, ⟨by (with_reducible repeat (first | apply Kd.R_alloc | apply Kd.R_drewN | apply Kd.R_drew)); exact Kd.R_mono HO136.out (fun _ hk => trivial)⟩, ⟨by (with_reducible repeat (first | apply Kd.R_alloc | apply Kd.R_drewN | apply Kd.R_drew)); exact HO_9.out⟩, ⟨by (with_reducible repeat (first | refine blk_drewN ?_ _ | refine blk_drew ?_ | refine blk_alloc ?_ _)); exact BK111.out⟩, ⟨by repeat (first | (with_reducible first | exact HB.out | apply below_alloc | apply pw_below_drewN | apply below_drew1 | refine below_set ?_ GE111.out | refine below_set ?_ GE126.out) | exact HB.out)⟩⟩
                · rw [if_neg c47] at H
                  exact absurd H (by simp)
              · rw [if_neg c46] at H
                have c46b0 : (t133 == 0) = false := beq_eq_false_iff_ne.mpr c46
                have c46b1 : (t133 != 0) = true := bne_iff_ne.mpr c46
                simp only [Option.some.injEq, Prod.mk.injEq] at H
                obtain ⟨rfl, rfl, rfl, rfl⟩ := H
                go_wp2_with (first | ((with_reducible refine gate_callee (f := 25) rfl ?_); refine goesL_ (some 110) rfl rfl Tryd.func25 (by as_aux_lemma => kernel_rfl) rfl #[.string (bz115.extract 0 (x14_23 : Int).toNat)] rfl (by (try simp only [List.map_toArray, List.map_cons, List.map_nil]); first | done | rfl | (simp only [List.length_drop, List.length_take]; rfl)) ?_; (with_reducible refine (token_word.calls (bz115.extract 0 (x14_23 : Int).toNat) t129 t130 t131 t132 t133 _ ?side1 A45.out).mono ?_); (case side1 => exact GOK.below hG.out (by first | exact HB.out | (repeat (first | (with_reducible first | exact HB.out | apply below_alloc | apply pw_below_drewN | apply below_drew1 | refine below_set ?_ GE111.out | refine below_set ?_ GE126.out) | exact HB.out)))); rintro e w52 ⟨rfl, hb⟩; refine ⟨_, rfl, ?_⟩; have n0_ := Aside0.mk (Kd.R_below (by (with_reducible repeat (first | apply Kd.R_alloc | apply Kd.R_drewN | apply Kd.R_drew)); exact HO_8.out) hb); have n1_ := Aside0.mk (Kd.R_below (by (with_reducible repeat (first | apply Kd.R_alloc | apply Kd.R_drewN | apply Kd.R_drew)); exact HO_9.out) hb); have n2_ := Aside0.mk (blk_below (g := gb111) (o := .cells (arrB t110) 48 (0, 0)) (by (with_reducible repeat (first | refine blk_drewN ?_ _ | refine blk_drew ?_ | refine blk_alloc ?_ _)); exact BK111.out) hb); have n3_ := Aside0.mk (blk_below (g := gb126) (o := .cells #[.int .i64 0, .string (⟨#[]⟩ : ByteArray), .int .i64 0, .int .i64 0] 36 (0, 0)) (by (with_reducible repeat (first | refine blk_drewN ?_ _ | refine blk_drew ?_ | refine blk_alloc ?_ _)); exact BK126.out) hb); have n4_ := Aside0.mk (below_step (by repeat (first | (with_reducible first | exact HB.out | apply below_alloc | apply pw_below_drewN | apply below_drew1 | refine below_set ?_ GE111.out | refine below_set ?_ GE126.out) | exact HB.out)) hb); clear HO_8; clear HO_9; clear BK111; clear BK126; clear HB; have HO_8 := n0_; have HO_9 := n1_; have BK111 := n2_; have BK126 := n3_; have HB := n4_; clear n0_ n1_ n2_ n3_ n4_; (try clear hb); (try clear hb2); (try clear hk); (try clear hi); have hnb53 := NB126_111.out; have hnc53 := NB111_126.out; have hcz54_0 : w52.cell? ⟨gb126, 0, none⟩ = some (.int .i64 0) := (blk_cell BK126.out 0).trans rfl; have hcz54_1 : w52.cell? ⟨gb126, 1, none⟩ = some (.string (⟨#[]⟩ : ByteArray)) := (blk_cell BK126.out 1).trans rfl; have hcz54_2 : w52.cell? ⟨gb126, 2, none⟩ = some (.int .i64 0) := (blk_cell BK126.out 2).trans rfl; have hcz54_3 : w52.cell? ⟨gb126, 3, none⟩ = some (.int .i64 0) := (blk_cell BK126.out 3).trans rfl; have hfz54_0 := blk_frozen BK126.out 0; have hfz54_1 := blk_frozen BK126.out 1; have hfz54_2 := blk_frozen BK126.out 2; have hfz54_3 := blk_frozen BK126.out 3))
                (try rw [Exit.noGoto_ret])
                refine bodyPost_ret (results_list (rs := [.tmp 2, .tmp 3, .tmp 4, .tmp 5]) rfl (by simp) (.tmp (.tmp (.tmp (.tmp .nil))))) rfl ?_
                exact ⟨_, _, by first | rfl | (simp [errW_none, errW_some] <;> rfl) | (simp [*, errW_none, errW_some] <;> rfl), by first | exact Kd.R_nil _ _ _ _ _ | exact Kd.N_nil _ _ _ _ _ | exact Kd.V_nil _ _ _ _ _ | exact Kd.Q_nil _ _ _ _ _ | exact Kd.S_nil _ _ _ _ _, by first | exact Kd.R_nil _ _ _ _ _ | exact Kd.N_nil _ _ _ _ _ | exact Kd.V_nil _ _ _ _ _ | exact Kd.Q_nil _ _ _ _ _ | exact Kd.S_nil _ _ _ _ _, by repeat (first | (with_reducible first | exact HB.out | apply below_alloc | apply pw_below_drewN | apply below_drew1 | refine below_set ?_ GE111.out | refine below_set ?_ GE126.out) | exact HB.out)⟩
            · rw [if_neg c44] at H
              exact absurd H (by simp)
          · rw [if_neg c43] at H
            exact absurd H (by simp)
        · replace c42 := Bool.eq_false_iff.mpr c42
          subst c42
          have H1 : ((token_digit.f (bt a0 x10_1)).bind fun t137 => (if t137 = true then (token_Scan.j4 kj32 a0 x8_1 x9_1 x10_1 (bt a0 x10_1) bz115 x14_23 true t110) else (if (bt a0 x10_1) = 45 then (if (bz115.size : Int) > 1 then (if 1 < (bz115.size : Int) then ((token_digit.f (bt bz115 1)).bind fun t138 => (if t138 = true then ((token_signed.f x8_1).bind fun t139 => (token_Scan.j4 kj32 a0 x8_1 x9_1 x10_1 (bt a0 x10_1) bz115 x14_23 t139 t110)) else (token_Scan.j4 kj32 a0 x8_1 x9_1 x10_1 (bt a0 x10_1) bz115 x14_23 false t110))) else (none)) else (token_Scan.j4 kj32 a0 x8_1 x9_1 x10_1 (bt a0 x10_1) bz115 x14_23 false t110)) else (token_Scan.j4 kj32 a0 x8_1 x9_1 x10_1 (bt a0 x10_1) bz115 x14_23 false t110)))) = some (r1, r2, r3, r4) := by rw [if_neg (show ¬ (false = true) by decide)] at H; exact H
          clear H
          have H := H1
          clear H1
          have HC55 := Aside0.mk H
          clear H
          go_upto_region 36 with (fail)
          go_cut [117] (fun v117 wc => ∃ (kq : Nat) (x117_54 : Bool), v117 = .bool x117_54 ∧ Aside0 (token_Scan.j4 kq a0 x8_1 x9_1 x10_1 (bt a0 x10_1) bz115 x14_23 x117_54 t110 = some (r1, r2, r3, r4)) ∧ Aside0 (kq ≤ kj32) ∧ Aside0 (Kd.R k36 36 wc w.heap.size (fun k_ => k_ ≠ gb126) u8 x8_1) ∧ Aside0 (Kd.R k33 33 wc w.heap.size (fun _ => True) u9 x9_1) ∧ Aside0 (wc.heap[gb111]? = some (.cells (arrB t110) 48 (0, 0))) ∧ Aside0 (wc.heap[gb126]? = some (.cells #[.int .i64 0, .string (⟨#[]⟩ : ByteArray), .int .i64 0, .int .i64 0] 36 (0, 0))) ∧ Aside0 (Below w.heap.size w wc))
          case first =>
            have H := HC55.out
            clear HC55
            replace H := Option.bind_eq_some_iff.mp H
            obtain ⟨t137, A560, H⟩ := H
            replace H : (if t137 = true then (token_Scan.j4 kj32 a0 x8_1 x9_1 x10_1 (bt a0 x10_1) bz115 x14_23 true t110) else (if (bt a0 x10_1) = 45 then (if (bz115.size : Int) > 1 then (if 1 < (bz115.size : Int) then ((token_digit.f (bt bz115 1)).bind fun t138 => (if t138 = true then ((token_signed.f x8_1).bind fun t139 => (token_Scan.j4 kj32 a0 x8_1 x9_1 x10_1 (bt a0 x10_1) bz115 x14_23 t139 t110)) else (token_Scan.j4 kj32 a0 x8_1 x9_1 x10_1 (bt a0 x10_1) bz115 x14_23 false t110))) else (none)) else (token_Scan.j4 kj32 a0 x8_1 x9_1 x10_1 (bt a0 x10_1) bz115 x14_23 false t110)) else (token_Scan.j4 kj32 a0 x8_1 x9_1 x10_1 (bt a0 x10_1) bz115 x14_23 false t110))) = some (r1, r2, r3, r4) := H
            have A56 := Aside0.mk A560
            clear A560
            by_cases c57 : t137 = true
            · subst c57
              have H1 : (token_Scan.j4 kj32 a0 x8_1 x9_1 x10_1 (bt a0 x10_1) bz115 x14_23 true t110) = some (r1, r2, r3, r4) := by rw [if_pos rfl] at H; exact H
              clear H
              have H := H1
              clear H1
              have H' := Aside0.mk H
              clear H
              go_wp2_with (first | ((with_reducible refine gate_callee (f := 24) rfl ?_); refine goesL_ (some 119) rfl rfl Tryd.func24 (by as_aux_lemma => kernel_rfl) rfl #[.int .u8 (bt a0 x10_1)] rfl (by (try simp only [List.map_toArray, List.map_cons, List.map_nil]); first | done | rfl | (simp only [List.length_drop, List.length_take]; rfl)) ?_; (with_reducible refine (token_digit.calls (bt a0 x10_1) true _ ?side1 A56.out).mono ?_); (case side1 => exact GOK.below hG.out (by first | exact HB.out | (repeat (first | (with_reducible first | exact HB.out | apply below_alloc | apply pw_below_drewN | apply below_drew1 | refine below_set ?_ GE111.out | refine below_set ?_ GE126.out) | exact HB.out)))); rintro e w' ⟨rfl, ⟨nd, rfl⟩⟩; refine ⟨_, rfl, ?_⟩))
              go_meet
              case rel => exact ⟨_, (true), (by first | rfl | (simp; done) | (simp [*]; done)), H', ⟨by have := HK1.out; have := HJ23.out; have := HJ32.out; first | omega | exact Nat.le_refl _⟩, ⟨by (with_reducible repeat (first | apply Kd.R_alloc | apply Kd.R_drewN | apply Kd.R_drew)); exact HO_8.out⟩, ⟨by (with_reducible repeat (first | apply Kd.R_alloc | apply Kd.R_drewN | apply Kd.R_drew)); exact HO_9.out⟩, ⟨by (with_reducible repeat (first | refine blk_drewN ?_ _ | refine blk_drew ?_ | refine blk_alloc ?_ _)); exact BK111.out⟩, ⟨by (with_reducible repeat (first | refine blk_drewN ?_ _ | refine blk_drew ?_ | refine blk_alloc ?_ _)); exact BK126.out⟩, ⟨by repeat (first | (with_reducible first | exact HB.out | apply below_alloc | apply pw_below_drewN | apply below_drew1 | refine below_set ?_ GE111.out | refine below_set ?_ GE126.out) | exact HB.out)⟩⟩
            · replace c57 := Bool.eq_false_iff.mpr c57
              subst c57
              have H1 : (if (bt a0 x10_1) = 45 then (if (bz115.size : Int) > 1 then (if 1 < (bz115.size : Int) then ((token_digit.f (bt bz115 1)).bind fun t138 => (if t138 = true then ((token_signed.f x8_1).bind fun t139 => (token_Scan.j4 kj32 a0 x8_1 x9_1 x10_1 (bt a0 x10_1) bz115 x14_23 t139 t110)) else (token_Scan.j4 kj32 a0 x8_1 x9_1 x10_1 (bt a0 x10_1) bz115 x14_23 false t110))) else (none)) else (token_Scan.j4 kj32 a0 x8_1 x9_1 x10_1 (bt a0 x10_1) bz115 x14_23 false t110)) else (token_Scan.j4 kj32 a0 x8_1 x9_1 x10_1 (bt a0 x10_1) bz115 x14_23 false t110)) = some (r1, r2, r3, r4) := by rw [if_neg (show ¬ (false = true) by decide)] at H; exact H
              clear H
              have H := H1
              clear H1
              by_cases c58 : (bt a0 x10_1) = 45
              · rw [if_pos c58] at H
                have c58b0 : ((bt a0 x10_1) == 45) = true := beq_iff_eq.mpr c58
                have c58b1 : ((bt a0 x10_1) != 45) = false := bne_eq_false_iff_eq.mpr c58
                clear c58
                (first | rw [c58b0] | (simp only [i64_w, i32_w]; rw [c58b0]) | skip)
                by_cases c59 : (bz115.size : Int) > 1
                · rw [if_pos c59] at H
                  have c59b0 : decide (1 < (bz115.size : Int)) = true := decide_eq_true c59
                  have c59b1 : decide (1 < bz115.size) = true := decide_eq_true (by omega)
                  clear c59
                  by_cases c60 : 1 < (bz115.size : Int)
                  · rw [if_pos c60] at H
                    have c60b0 : decide (1 < (bz115.size : Int)) = true := decide_eq_true c60
                    have c60b1 : decide (1 < bz115.size) = true := decide_eq_true (by omega)
                    clear c60
                    replace H := Option.bind_eq_some_iff.mp H
                    obtain ⟨t138, A620, H⟩ := H
                    replace H : (if t138 = true then ((token_signed.f x8_1).bind fun t139 => (token_Scan.j4 kj32 a0 x8_1 x9_1 x10_1 (bt a0 x10_1) bz115 x14_23 t139 t110)) else (token_Scan.j4 kj32 a0 x8_1 x9_1 x10_1 (bt a0 x10_1) bz115 x14_23 false t110)) = some (r1, r2, r3, r4) := H
                    have A62 := Aside0.mk A620
                    clear A620
                    by_cases c63 : t138 = true
                    · subst c63
                      have H1 : ((token_signed.f x8_1).bind fun t139 => (token_Scan.j4 kj32 a0 x8_1 x9_1 x10_1 (bt a0 x10_1) bz115 x14_23 t139 t110)) = some (r1, r2, r3, r4) := by rw [if_pos rfl] at H; exact H
                      clear H
                      have H := H1
                      clear H1
                      replace H := Option.bind_eq_some_iff.mp H
                      obtain ⟨t139, A640, H⟩ := H
                      replace H : (token_Scan.j4 kj32 a0 x8_1 x9_1 x10_1 (bt a0 x10_1) bz115 x14_23 t139 t110) = some (r1, r2, r3, r4) := H
                      have A64 := Aside0.mk A640
                      clear A640
                      have H' := Aside0.mk H
                      clear H
                      go_wp2_with (first | ((with_reducible refine gate_callee (f := 24) rfl ?_); refine goesL_ (some 119) rfl rfl Tryd.func24 (by as_aux_lemma => kernel_rfl) rfl #[.int .u8 (bt a0 x10_1)] rfl (by (try simp only [List.map_toArray, List.map_cons, List.map_nil]); first | done | rfl | (simp only [List.length_drop, List.length_take]; rfl)) ?_; (with_reducible refine (token_digit.calls (bt a0 x10_1) false _ ?side1 A56.out).mono ?_); (case side1 => exact GOK.below hG.out (by first | exact HB.out | (repeat (first | (with_reducible first | exact HB.out | apply below_alloc | apply pw_below_drewN | apply below_drew1 | refine below_set ?_ GE111.out | refine below_set ?_ GE126.out) | exact HB.out)))); rintro e w' ⟨rfl, ⟨nd, rfl⟩⟩; refine ⟨_, rfl, ?_⟩; have p61 : 0 ≤ (1 : Int) := (by omega); have q61 : 1 < bz115.size := (by have : (1 : Int) < (bz115.size : Int) := of_decide_eq_true (by first | (with_reducible assumption) | assumption); omega); have hx61 : ∀ h : 1 < bz115.size, ((bz115[1]'h).toNat : Int) = bt bz115 1 := bt_at bz115 1; clear p61; have qi61 : (1 < (bz115.size : Int)) = True := eq_true (of_decide_eq_true (by first | (with_reducible assumption) | assumption)); replace q61 := eq_true q61) | (go_at_call 24; (with_reducible refine (token_digit.calls (bt bz115 1) true _ ?side1 A62.out).mono ?_); (case side1 => exact GOK.below hG.out (by first | exact HB.out | (repeat (first | (with_reducible first | exact HB.out | apply below_alloc | apply pw_below_drewN | apply below_drew1 | refine below_set ?_ GE111.out | refine below_set ?_ GE126.out) | exact HB.out)))); rintro e w' ⟨rfl, ⟨nd, rfl⟩⟩; obtain ⟨Ao65, co65, eo65⟩ := Kd.R_slice HO_8.out; subst eo65) | (go_at_call 26; (with_reducible refine (token_signed.calls _ _ x8_1 t139 _ ?side1 ?side2 ?side3 A64.out).mono ?_); (case side1 => exact GOK.below hG.out (by first | exact HB.out | (repeat (first | (with_reducible first | exact HB.out | apply below_alloc | apply pw_below_drewN | apply below_drew1 | refine below_set ?_ GE111.out | refine below_set ?_ GE126.out) | exact HB.out)))); (case side2 => repeat (first | exact (Kd.R_reads' HO_8.out).2.2 | (with_reducible refine Kd.C_alloc ?_ _) | (with_reducible refine Kd.C_drewN ?_ _) | (with_reducible refine Kd.C_drew ?_))); (case side3 => exact (Kd.R_reads' HO_8.out).2.1); rintro e w66 ⟨rfl, hb⟩; have n0_ := Aside0.mk (Kd.R_below (by (with_reducible repeat (first | apply Kd.R_alloc | apply Kd.R_drewN | apply Kd.R_drew)); exact HO_8.out) hb); have n1_ := Aside0.mk (Kd.R_below (by (with_reducible repeat (first | apply Kd.R_alloc | apply Kd.R_drewN | apply Kd.R_drew)); exact HO_9.out) hb); have n2_ := Aside0.mk (blk_below (g := gb111) (o := .cells (arrB t110) 48 (0, 0)) (by (with_reducible repeat (first | refine blk_drewN ?_ _ | refine blk_drew ?_ | refine blk_alloc ?_ _)); exact BK111.out) hb); have n3_ := Aside0.mk (blk_below (g := gb126) (o := .cells #[.int .i64 0, .string (⟨#[]⟩ : ByteArray), .int .i64 0, .int .i64 0] 36 (0, 0)) (by (with_reducible repeat (first | refine blk_drewN ?_ _ | refine blk_drew ?_ | refine blk_alloc ?_ _)); exact BK126.out) hb); have n4_ := Aside0.mk (below_step (by repeat (first | (with_reducible first | exact HB.out | apply below_alloc | apply pw_below_drewN | apply below_drew1 | refine below_set ?_ GE111.out | refine below_set ?_ GE126.out) | exact HB.out)) hb); clear HO_8; clear HO_9; clear BK111; clear BK126; clear HB; have HO_8 := n0_; have HO_9 := n1_; have BK111 := n2_; have BK126 := n3_; have HB := n4_; clear n0_ n1_ n2_ n3_ n4_; (try clear hb); (try clear hb2); (try clear hk); (try clear hi)))
                      go_meet
                      case rel => exact ⟨_, (t139), (by first | rfl | (simp; done) | (simp [*]; done)), H', ⟨by have := HK1.out; have := HJ23.out; have := HJ32.out; first | omega | exact Nat.le_refl _⟩, ⟨by (with_reducible repeat (first | apply Kd.R_alloc | apply Kd.R_drewN | apply Kd.R_drew)); exact HO_8.out⟩, ⟨by (with_reducible repeat (first | apply Kd.R_alloc | apply Kd.R_drewN | apply Kd.R_drew)); exact HO_9.out⟩, ⟨by (with_reducible repeat (first | refine blk_drewN ?_ _ | refine blk_drew ?_ | refine blk_alloc ?_ _)); exact BK111.out⟩, ⟨by (with_reducible repeat (first | refine blk_drewN ?_ _ | refine blk_drew ?_ | refine blk_alloc ?_ _)); exact BK126.out⟩, ⟨by repeat (first | (with_reducible first | exact HB.out | apply below_alloc | apply pw_below_drewN | apply below_drew1 | refine below_set ?_ GE111.out | refine below_set ?_ GE126.out) | exact HB.out)⟩⟩
                    · replace c63 := Bool.eq_false_iff.mpr c63
                      subst c63
                      have H1 : (token_Scan.j4 kj32 a0 x8_1 x9_1 x10_1 (bt a0 x10_1) bz115 x14_23 false t110) = some (r1, r2, r3, r4) := by rw [if_neg (show ¬ (false = true) by decide)] at H; exact H
                      clear H
                      have H := H1
                      clear H1
                      have H' := Aside0.mk H
                      clear H
                      go_wp2_with (first | ((with_reducible refine gate_callee (f := 24) rfl ?_); refine goesL_ (some 119) rfl rfl Tryd.func24 (by as_aux_lemma => kernel_rfl) rfl #[.int .u8 (bt a0 x10_1)] rfl (by (try simp only [List.map_toArray, List.map_cons, List.map_nil]); first | done | rfl | (simp only [List.length_drop, List.length_take]; rfl)) ?_; (with_reducible refine (token_digit.calls (bt a0 x10_1) false _ ?side1 A56.out).mono ?_); (case side1 => exact GOK.below hG.out (by first | exact HB.out | (repeat (first | (with_reducible first | exact HB.out | apply below_alloc | apply pw_below_drewN | apply below_drew1 | refine below_set ?_ GE111.out | refine below_set ?_ GE126.out) | exact HB.out)))); rintro e w' ⟨rfl, ⟨nd, rfl⟩⟩; refine ⟨_, rfl, ?_⟩; have p61 : 0 ≤ (1 : Int) := (by omega); have q61 : 1 < bz115.size := (by have : (1 : Int) < (bz115.size : Int) := of_decide_eq_true (by first | (with_reducible assumption) | assumption); omega); have hx61 : ∀ h : 1 < bz115.size, ((bz115[1]'h).toNat : Int) = bt bz115 1 := bt_at bz115 1; clear p61; have qi61 : (1 < (bz115.size : Int)) = True := eq_true (of_decide_eq_true (by first | (with_reducible assumption) | assumption)); replace q61 := eq_true q61) | (go_at_call 24; (with_reducible refine (token_digit.calls (bt bz115 1) false _ ?side1 A62.out).mono ?_); (case side1 => exact GOK.below hG.out (by first | exact HB.out | (repeat (first | (with_reducible first | exact HB.out | apply below_alloc | apply pw_below_drewN | apply below_drew1 | refine below_set ?_ GE111.out | refine below_set ?_ GE126.out) | exact HB.out)))); rintro e w' ⟨rfl, ⟨nd, rfl⟩⟩))
                      go_meet
                      case rel => exact ⟨_, (false), (by first | rfl | (simp; done) | (simp [*]; done)), H', ⟨by have := HK1.out; have := HJ23.out; have := HJ32.out; first | omega | exact Nat.le_refl _⟩, ⟨by (with_reducible repeat (first | apply Kd.R_alloc | apply Kd.R_drewN | apply Kd.R_drew)); exact HO_8.out⟩, ⟨by (with_reducible repeat (first | apply Kd.R_alloc | apply Kd.R_drewN | apply Kd.R_drew)); exact HO_9.out⟩, ⟨by (with_reducible repeat (first | refine blk_drewN ?_ _ | refine blk_drew ?_ | refine blk_alloc ?_ _)); exact BK111.out⟩, ⟨by (with_reducible repeat (first | refine blk_drewN ?_ _ | refine blk_drew ?_ | refine blk_alloc ?_ _)); exact BK126.out⟩, ⟨by repeat (first | (with_reducible first | exact HB.out | apply below_alloc | apply pw_below_drewN | apply below_drew1 | refine below_set ?_ GE111.out | refine below_set ?_ GE126.out) | exact HB.out)⟩⟩
                  · rw [if_neg c60] at H
                    exact absurd H (by simp)
                · rw [if_neg c59] at H
                  have c59b0 : decide (1 < (bz115.size : Int)) = false := decide_eq_false c59
                  have c59b1 : decide (1 < bz115.size) = false := decide_eq_false (by omega)
                  clear c59
                  have H' := Aside0.mk H
                  clear H
                  go_wp2_with (first | ((with_reducible refine gate_callee (f := 24) rfl ?_); refine goesL_ (some 119) rfl rfl Tryd.func24 (by as_aux_lemma => kernel_rfl) rfl #[.int .u8 (bt a0 x10_1)] rfl (by (try simp only [List.map_toArray, List.map_cons, List.map_nil]); first | done | rfl | (simp only [List.length_drop, List.length_take]; rfl)) ?_; (with_reducible refine (token_digit.calls (bt a0 x10_1) false _ ?side1 A56.out).mono ?_); (case side1 => exact GOK.below hG.out (by first | exact HB.out | (repeat (first | (with_reducible first | exact HB.out | apply below_alloc | apply pw_below_drewN | apply below_drew1 | refine below_set ?_ GE111.out | refine below_set ?_ GE126.out) | exact HB.out)))); rintro e w' ⟨rfl, ⟨nd, rfl⟩⟩; refine ⟨_, rfl, ?_⟩))
                  go_meet
                  case rel => exact ⟨_, (false), (by first | rfl | (simp; done) | (simp [*]; done)), H', ⟨by have := HK1.out; have := HJ23.out; have := HJ32.out; first | omega | exact Nat.le_refl _⟩, ⟨by (with_reducible repeat (first | apply Kd.R_alloc | apply Kd.R_drewN | apply Kd.R_drew)); exact HO_8.out⟩, ⟨by (with_reducible repeat (first | apply Kd.R_alloc | apply Kd.R_drewN | apply Kd.R_drew)); exact HO_9.out⟩, ⟨by (with_reducible repeat (first | refine blk_drewN ?_ _ | refine blk_drew ?_ | refine blk_alloc ?_ _)); exact BK111.out⟩, ⟨by (with_reducible repeat (first | refine blk_drewN ?_ _ | refine blk_drew ?_ | refine blk_alloc ?_ _)); exact BK126.out⟩, ⟨by repeat (first | (with_reducible first | exact HB.out | apply below_alloc | apply pw_below_drewN | apply below_drew1 | refine below_set ?_ GE111.out | refine below_set ?_ GE126.out) | exact HB.out)⟩⟩
              · rw [if_neg c58] at H
                have c58b0 : ((bt a0 x10_1) == 45) = false := beq_eq_false_iff_ne.mpr c58
                have c58b1 : ((bt a0 x10_1) != 45) = true := bne_iff_ne.mpr c58
                (first | rw [c58b0] | (simp only [i64_w, i32_w]; rw [c58b0]) | skip)
                have H' := Aside0.mk H
                clear H
                go_wp2_with (first | ((with_reducible refine gate_callee (f := 24) rfl ?_); refine goesL_ (some 119) rfl rfl Tryd.func24 (by as_aux_lemma => kernel_rfl) rfl #[.int .u8 (bt a0 x10_1)] rfl (by (try simp only [List.map_toArray, List.map_cons, List.map_nil]); first | done | rfl | (simp only [List.length_drop, List.length_take]; rfl)) ?_; (with_reducible refine (token_digit.calls (bt a0 x10_1) false _ ?side1 A56.out).mono ?_); (case side1 => exact GOK.below hG.out (by first | exact HB.out | (repeat (first | (with_reducible first | exact HB.out | apply below_alloc | apply pw_below_drewN | apply below_drew1 | refine below_set ?_ GE111.out | refine below_set ?_ GE126.out) | exact HB.out)))); rintro e w' ⟨rfl, ⟨nd, rfl⟩⟩; refine ⟨_, rfl, ?_⟩))
                go_meet
                case rel => exact ⟨_, (false), (by first | rfl | (simp; done) | (simp [*]; done)), H', ⟨by have := HK1.out; have := HJ23.out; have := HJ32.out; first | omega | exact Nat.le_refl _⟩, ⟨by (with_reducible repeat (first | apply Kd.R_alloc | apply Kd.R_drewN | apply Kd.R_drew)); exact HO_8.out⟩, ⟨by (with_reducible repeat (first | apply Kd.R_alloc | apply Kd.R_drewN | apply Kd.R_drew)); exact HO_9.out⟩, ⟨by (with_reducible repeat (first | refine blk_drewN ?_ _ | refine blk_drew ?_ | refine blk_alloc ?_ _)); exact BK111.out⟩, ⟨by (with_reducible repeat (first | refine blk_drewN ?_ _ | refine blk_drew ?_ | refine blk_alloc ?_ _)); exact BK126.out⟩, ⟨by repeat (first | (with_reducible first | exact HB.out | apply below_alloc | apply pw_below_drewN | apply below_drew1 | refine below_set ?_ GE111.out | refine below_set ?_ GE126.out) | exact HB.out)⟩⟩
          case rest =>
            clear HC55
            try clear c1
            try clear p1
            try clear q1
            try clear hx1
            try clear c2
            try clear c2b0
            try clear c2b1
            try clear p2
            try clear q2
            try clear hx2
            try clear c3
            try clear p3
            try clear c4
            try clear c4b0
            try clear c5
            try clear c6
            try clear p6
            try clear q6
            try clear hx6
            try clear qi6
            try clear c9
            try clear c9b0
            try clear c10
            try clear c10b0
            try clear c11
            try clear p11
            try clear q11
            try clear hx11
            try clear c12
            try clear c12b0
            try clear c13
            try clear c13b0
            try clear c13b1
            try clear c15
            try clear c17
            try clear c19
            try clear c19b0
            try clear c20
            try clear c21
            try clear c22
            try clear c23
            try clear c24
            try clear c25
            try clear c25b0
            try clear c26
            try clear c26b0
            try clear p27
            try clear q27
            try clear hx27
            try clear c28
            try clear c28b0
            try clear c29
            try clear c29b0
            try clear c30
            try clear c30b0
            try clear c35
            try clear c35b0
            try clear c35b1
            try clear c36
            try clear c36b0
            try clear c37
            try clear c37b0
            try clear c38
            try clear c38b0
            try clear c42
            try clear c43
            try clear c43b0
            try clear c43b1
            try clear c44
            try clear c44b0
            try clear c44b1
            try clear c46
            try clear c46b0
            try clear c46b1
            try clear c47
            try clear c49
            try clear c53
            try clear c57
            try clear c58
            try clear c58b0
            try clear c58b1
            try clear c59
            try clear c59b0
            try clear c59b1
            try clear c60
            try clear c60b0
            try clear c60b1
            try clear p61
            try clear q61
            try clear hx61
            try clear qi61
            try clear c63
            try clear p64
            try clear hcz50_0
            try clear hcz50_1
            try clear hcz50_2
            try clear hcz50_3
            try clear hcz54_0
            try clear hcz54_1
            try clear hcz54_2
            try clear hcz54_3
            try clear hfz50_0
            try clear hfz50_1
            try clear hfz50_2
            try clear hfz50_3
            try clear hfz54_0
            try clear hfz54_1
            try clear hfz54_2
            try clear hfz54_3
            try clear p1
            try clear p11
            try clear p2
            try clear p27
            try clear p3
            try clear p6
            try clear p61
            try clear q1
            try clear q11
            try clear q2
            try clear q27
            try clear q61
            obtain ⟨kq, x117_54, rfl, HA, HJ54, HO_8, HO_9, BK111, BK126, HB⟩ := hcut
            cases kq with
            | zero => exact absurd HA.out (by simp [token_Scan.j4])
            | succ kj54 =>
              have H := HA.out
              clear HA
              simp only [token_Scan.j4] at H
              by_cases c67 : x117_54 = true
              · subst c67
                have H1 : (token_Scan.l2 kj54 a0 x8_1 x9_1 x10_1 bz115 1 t110) = some (r1, r2, r3, r4) := by rw [if_pos rfl] at H; exact H
                clear H
                have H := H1
                clear H1
                have HC68 := Aside0.mk H
                clear H
                go_upto_block 6 with (fail)
                go_cut [14] (fun v14 wc => ∃ (kq : Nat) (x14_67 : Int), v14 = .int .i64 x14_67 ∧ Aside0 (token_Scan.j6 kq a0 x8_1 x9_1 x10_1 bz115 x14_67 t110 = some (r1, r2, r3, r4)) ∧ Aside0 (kq ≤ kj54) ∧ Aside0 (Kd.R k36 36 wc w.heap.size (fun k_ => k_ ≠ gb126) u8 x8_1) ∧ Aside0 (Kd.R k33 33 wc w.heap.size (fun _ => True) u9 x9_1) ∧ Aside0 (wc.heap[gb111]? = some (.cells (arrB t110) 48 (0, 0))) ∧ Aside0 (wc.heap[gb126]? = some (.cells #[.int .i64 0, .string (⟨#[]⟩ : ByteArray), .int .i64 0, .int .i64 0] 36 (0, 0))) ∧ Aside0 (Below w.heap.size w wc))
                case first =>
                  have H := HC68.out
                  clear HC68
                  have H' := Aside0.mk H
                  clear H
                  go_wp2
                  (try (go_step3; go_wp2))
                  go_loopg [14] kj54 (fun kq v14 w' => ∃ (x14_5 : Int), v14 = .int .i64 x14_5 ∧ Aside0 (token_Scan.l2 kq a0 x8_1 x9_1 x10_1 bz115 x14_5 t110 = some (r1, r2, r3, r4)) ∧ Aside0 (kq ≤ kj54) ∧ Aside0 (Kd.R k36 36 w' w.heap.size (fun k_ => k_ ≠ gb126) u8 x8_1) ∧ Aside0 (Kd.R k33 33 w' w.heap.size (fun _ => True) u9 x9_1) ∧ Aside0 (w'.heap[gb111]? = some (.cells (arrB t110) 48 (0, 0))) ∧ Aside0 (w'.heap[gb126]? = some (.cells #[.int .i64 0, .string (⟨#[]⟩ : ByteArray), .int .i64 0, .int .i64 0] 36 (0, 0))) ∧ Aside0 (Below w.heap.size w w'))
                  case atStart => exact ⟨(1), (by first | rfl | (simp; done) | (simp [*]; done)), H', ⟨Nat.le_refl _⟩, ⟨by (with_reducible repeat (first | apply Kd.R_alloc | apply Kd.R_drewN | apply Kd.R_drew)); exact HO_8.out⟩, ⟨by (with_reducible repeat (first | apply Kd.R_alloc | apply Kd.R_drewN | apply Kd.R_drew)); exact HO_9.out⟩, ⟨by (with_reducible repeat (first | refine blk_drewN ?_ _ | refine blk_drew ?_ | refine blk_alloc ?_ _)); exact BK111.out⟩, ⟨by (with_reducible repeat (first | refine blk_drewN ?_ _ | refine blk_drew ?_ | refine blk_alloc ?_ _)); exact BK126.out⟩, ⟨by repeat (first | (with_reducible first | exact HB.out | apply below_alloc | apply pw_below_drewN | apply below_drew1 | refine below_set ?_ GE111.out | refine below_set ?_ GE126.out) | exact HB.out)⟩⟩
                  case round =>
                    clear H'
                    try clear c1
                    try clear p1
                    try clear q1
                    try clear hx1
                    try clear c2
                    try clear c2b0
                    try clear c2b1
                    try clear p2
                    try clear q2
                    try clear hx2
                    try clear c3
                    try clear p3
                    try clear c4
                    try clear c4b0
                    try clear c5
                    try clear c6
                    try clear p6
                    try clear q6
                    try clear hx6
                    try clear qi6
                    try clear c9
                    try clear c9b0
                    try clear c10
                    try clear c10b0
                    try clear c11
                    try clear p11
                    try clear q11
                    try clear hx11
                    try clear c12
                    try clear c12b0
                    try clear c13
                    try clear c13b0
                    try clear c13b1
                    try clear c15
                    try clear c17
                    try clear c19
                    try clear c19b0
                    try clear c20
                    try clear c21
                    try clear c22
                    try clear c23
                    try clear c24
                    try clear c25
                    try clear c25b0
                    try clear c26
                    try clear c26b0
                    try clear p27
                    try clear q27
                    try clear hx27
                    try clear c28
                    try clear c28b0
                    try clear c29
                    try clear c29b0
                    try clear c30
                    try clear c30b0
                    try clear c35
                    try clear c35b0
                    try clear c35b1
                    try clear c36
                    try clear c36b0
                    try clear c37
                    try clear c37b0
                    try clear c38
                    try clear c38b0
                    try clear c42
                    try clear c43
                    try clear c43b0
                    try clear c43b1
                    try clear c44
                    try clear c44b0
                    try clear c44b1
                    try clear c46
                    try clear c46b0
                    try clear c46b1
                    try clear c47
                    try clear c49
                    try clear c53
                    try clear c57
                    try clear c58
                    try clear c58b0
                    try clear c58b1
                    try clear c59
                    try clear c59b0
                    try clear c59b1
                    try clear c60
                    try clear c60b0
                    try clear c60b1
                    try clear p61
                    try clear q61
                    try clear hx61
                    try clear qi61
                    try clear c63
                    try clear p64
                    try clear c67
                    try clear hcz50_0
                    try clear hcz50_1
                    try clear hcz50_2
                    try clear hcz50_3
                    try clear hcz54_0
                    try clear hcz54_1
                    try clear hcz54_2
                    try clear hcz54_3
                    try clear hfz50_0
                    try clear hfz50_1
                    try clear hfz50_2
                    try clear hfz50_3
                    try clear hfz54_0
                    try clear hfz54_1
                    try clear hfz54_2
                    try clear hfz54_3
                    try clear p1
                    try clear p11
                    try clear p2
                    try clear p27
                    try clear p3
                    try clear p6
                    try clear p61
                    try clear p64
                    try clear q1
                    try clear q11
                    try clear q2
                    try clear q27
                    try clear q6
                    try clear q61
                    obtain ⟨x14_5, rfl, HA, HK5, HO_8, HO_9, BK111, BK126, HB⟩ := hrel
                    cases gk with
                    | zero => exact absurd HA.out (by simp [token_Scan.l2])
                    | succ k5 =>
                      have H := HA.out
                      clear HA
                      simp only [token_Scan.l2] at H
                      by_cases c69 : x14_5 < (bz115.size : Int)
                      · rw [if_pos c69] at H
                        have c69b0 : decide (x14_5 < (bz115.size : Int)) = true := decide_eq_true c69
                        clear c69
                        (first | rw [c69b0] | (simp only [i64_w, i32_w]; rw [c69b0]) | skip)
                        by_cases c70 : 0 ≤ x14_5
                        · rw [if_pos c70] at H
                          have c70b0 : decide (0 ≤ x14_5) = true := decide_eq_true c70
                          clear c70
                          replace H := Option.bind_eq_some_iff.mp H
                          obtain ⟨t140, A720, H⟩ := H
                          replace H : (if t140 = true then (token_Scan.l2 k5 a0 x8_1 x9_1 x10_1 bz115 (wrap64 (x14_5 + 1)) t110) else (token_Scan.j6 k5 a0 x8_1 x9_1 x10_1 bz115 x14_5 t110)) = some (r1, r2, r3, r4) := H
                          have A72 := Aside0.mk A720
                          clear A720
                          by_cases c73 : t140 = true
                          · subst c73
                            have H1 : (token_Scan.l2 k5 a0 x8_1 x9_1 x10_1 bz115 (wrap64 (x14_5 + 1)) t110) = some (r1, r2, r3, r4) := by rw [if_pos rfl] at H; exact H
                            clear H
                            have H := H1
                            clear H1
                            have H' := Aside0.mk H
                            clear H
                            have p71 : 0 ≤ (x14_5 : Int) := of_decide_eq_true (by first | (with_reducible assumption) | assumption)
                            have q71 : x14_5 < (bz115.size : Int) := of_decide_eq_true (by first | (with_reducible assumption) | assumption)
                            have hx71 := bt_at bz115 x14_5
                            replace p71 := eq_true p71
                            replace q71 := eq_true q71
                            go_wp2_with (first | (go_at_call 24; (with_reducible refine (token_digit.calls (bt bz115 x14_5) true _ ?side1 A72.out).mono ?_); (case side1 => exact GOK.below hG.out (by first | exact HB.out | (repeat (first | (with_reducible first | exact HB.out | apply below_alloc | apply pw_below_drewN | apply below_drew1 | refine below_set ?_ GE111.out | refine below_set ?_ GE126.out) | exact HB.out)))); rintro e w' ⟨rfl, ⟨nd, rfl⟩⟩))
                            go_roundg k5
                            case measure => have := HK1.out; have := HJ23.out; have := HJ32.out; have := HJ54.out; have := HK5.out; omega
                            case rel => exact ⟨(wrap64 (x14_5 + 1)), (by first | rfl | (simp; done) | (simp [*]; done)), H', ⟨by have := HK1.out; have := HJ23.out; have := HJ32.out; have := HJ54.out; have := HK5.out; omega⟩, ⟨by (with_reducible repeat (first | apply Kd.R_alloc | apply Kd.R_drewN | apply Kd.R_drew)); exact HO_8.out⟩, ⟨by (with_reducible repeat (first | apply Kd.R_alloc | apply Kd.R_drewN | apply Kd.R_drew)); exact HO_9.out⟩, ⟨by (with_reducible repeat (first | refine blk_drewN ?_ _ | refine blk_drew ?_ | refine blk_alloc ?_ _)); exact BK111.out⟩, ⟨by (with_reducible repeat (first | refine blk_drewN ?_ _ | refine blk_drew ?_ | refine blk_alloc ?_ _)); exact BK126.out⟩, ⟨by repeat (first | (with_reducible first | exact HB.out | apply below_alloc | apply pw_below_drewN | apply below_drew1 | refine below_set ?_ GE111.out | refine below_set ?_ GE126.out) | exact HB.out)⟩⟩
                          · replace c73 := Bool.eq_false_iff.mpr c73
                            subst c73
                            have H1 : (token_Scan.j6 k5 a0 x8_1 x9_1 x10_1 bz115 x14_5 t110) = some (r1, r2, r3, r4) := by rw [if_neg (show ¬ (false = true) by decide)] at H; exact H
                            clear H
                            have H := H1
                            clear H1
                            have H' := Aside0.mk H
                            clear H
                            have p71 : 0 ≤ (x14_5 : Int) := of_decide_eq_true (by first | (with_reducible assumption) | assumption)
                            have q71 : x14_5 < (bz115.size : Int) := of_decide_eq_true (by first | (with_reducible assumption) | assumption)
                            have hx71 := bt_at bz115 x14_5
                            replace p71 := eq_true p71
                            replace q71 := eq_true q71
                            go_wp2_with (first | (go_at_call 24; (with_reducible refine (token_digit.calls (bt bz115 x14_5) false _ ?side1 A72.out).mono ?_); (case side1 => exact GOK.below hG.out (by first | exact HB.out | (repeat (first | (with_reducible first | exact HB.out | apply below_alloc | apply pw_below_drewN | apply below_drew1 | refine below_set ?_ GE111.out | refine below_set ?_ GE126.out) | exact HB.out)))); rintro e w' ⟨rfl, ⟨nd, rfl⟩⟩))
                            go_meet
                            case rel => exact ⟨_, (x14_5), (by first | rfl | (simp; done) | (simp [*]; done)), H', ⟨by have := HK1.out; have := HJ23.out; have := HJ32.out; have := HJ54.out; have := HK5.out; first | omega | exact Nat.le_refl _⟩, ⟨by (with_reducible repeat (first | apply Kd.R_alloc | apply Kd.R_drewN | apply Kd.R_drew)); exact HO_8.out⟩, ⟨by (with_reducible repeat (first | apply Kd.R_alloc | apply Kd.R_drewN | apply Kd.R_drew)); exact HO_9.out⟩, ⟨by (with_reducible repeat (first | refine blk_drewN ?_ _ | refine blk_drew ?_ | refine blk_alloc ?_ _)); exact BK111.out⟩, ⟨by (with_reducible repeat (first | refine blk_drewN ?_ _ | refine blk_drew ?_ | refine blk_alloc ?_ _)); exact BK126.out⟩, ⟨by repeat (first | (with_reducible first | exact HB.out | apply below_alloc | apply pw_below_drewN | apply below_drew1 | refine below_set ?_ GE111.out | refine below_set ?_ GE126.out) | exact HB.out)⟩⟩
                        · rw [if_neg c70] at H
                          exact absurd H (by simp)
                      · rw [if_neg c69] at H
                        have c69b0 : decide (x14_5 < (bz115.size : Int)) = false := decide_eq_false c69
                        clear c69
                        (first | rw [c69b0] | (simp only [i64_w, i32_w]; rw [c69b0]) | skip)
                        have H' := Aside0.mk H
                        clear H
                        go_wp2
                        go_meet
                        case rel => exact ⟨_, (x14_5), (by first | rfl | (simp; done) | (simp [*]; done)), H', ⟨by have := HK1.out; have := HJ23.out; have := HJ32.out; have := HJ54.out; have := HK5.out; first | omega | exact Nat.le_refl _⟩, ⟨by (with_reducible repeat (first | apply Kd.R_alloc | apply Kd.R_drewN | apply Kd.R_drew)); exact HO_8.out⟩, ⟨by (with_reducible repeat (first | apply Kd.R_alloc | apply Kd.R_drewN | apply Kd.R_drew)); exact HO_9.out⟩, ⟨by (with_reducible repeat (first | refine blk_drewN ?_ _ | refine blk_drew ?_ | refine blk_alloc ?_ _)); exact BK111.out⟩, ⟨by (with_reducible repeat (first | refine blk_drewN ?_ _ | refine blk_drew ?_ | refine blk_alloc ?_ _)); exact BK126.out⟩, ⟨by repeat (first | (with_reducible first | exact HB.out | apply below_alloc | apply pw_below_drewN | apply below_drew1 | refine below_set ?_ GE111.out | refine below_set ?_ GE126.out) | exact HB.out)⟩⟩
                case rest =>
                  clear HC68
                  try clear c1
                  try clear p1
                  try clear q1
                  try clear hx1
                  try clear c2
                  try clear c2b0
                  try clear c2b1
                  try clear p2
                  try clear q2
                  try clear hx2
                  try clear c3
                  try clear p3
                  try clear c4
                  try clear c4b0
                  try clear c5
                  try clear c6
                  try clear p6
                  try clear q6
                  try clear hx6
                  try clear qi6
                  try clear c7
                  try clear p7
                  try clear q7
                  try clear hx7
                  try clear c9
                  try clear c9b0
                  try clear c10
                  try clear c10b0
                  try clear c11
                  try clear p11
                  try clear q11
                  try clear hx11
                  try clear c12
                  try clear c12b0
                  try clear c13
                  try clear c13b0
                  try clear c13b1
                  try clear c15
                  try clear c17
                  try clear c19
                  try clear c19b0
                  try clear c20
                  try clear c21
                  try clear c22
                  try clear c23
                  try clear c24
                  try clear c25
                  try clear c25b0
                  try clear c26
                  try clear c26b0
                  try clear p27
                  try clear q27
                  try clear hx27
                  try clear c28
                  try clear c28b0
                  try clear c29
                  try clear c29b0
                  try clear c30
                  try clear c30b0
                  try clear c35
                  try clear c35b0
                  try clear c35b1
                  try clear c36
                  try clear c36b0
                  try clear c37
                  try clear c37b0
                  try clear c38
                  try clear c38b0
                  try clear c42
                  try clear c43
                  try clear c43b0
                  try clear c43b1
                  try clear c44
                  try clear c44b0
                  try clear c44b1
                  try clear c46
                  try clear c46b0
                  try clear c46b1
                  try clear c47
                  try clear c49
                  try clear c53
                  try clear c57
                  try clear c58
                  try clear c58b0
                  try clear c58b1
                  try clear c59
                  try clear c59b0
                  try clear c59b1
                  try clear c60
                  try clear c60b0
                  try clear c60b1
                  try clear p61
                  try clear q61
                  try clear hx61
                  try clear qi61
                  try clear c63
                  try clear p64
                  try clear c67
                  try clear c69
                  try clear c69b0
                  try clear c70
                  try clear c70b0
                  try clear p71
                  try clear q71
                  try clear hx71
                  try clear c73
                  try clear hcz50_0
                  try clear hcz50_1
                  try clear hcz50_2
                  try clear hcz50_3
                  try clear hcz54_0
                  try clear hcz54_1
                  try clear hcz54_2
                  try clear hcz54_3
                  try clear hfz50_0
                  try clear hfz50_1
                  try clear hfz50_2
                  try clear hfz50_3
                  try clear hfz54_0
                  try clear hfz54_1
                  try clear hfz54_2
                  try clear hfz54_3
                  try clear p1
                  try clear p11
                  try clear p2
                  try clear p27
                  try clear p3
                  try clear p6
                  try clear p61
                  try clear p64
                  try clear p71
                  try clear q1
                  try clear q11
                  try clear q2
                  try clear q27
                  try clear q6
                  try clear q61
                  try clear q71
                  obtain ⟨kq, x14_67, rfl, HA, HJ67, HO_8, HO_9, BK111, BK126, HB⟩ := hcut
                  cases kq with
                  | zero => exact absurd HA.out (by simp [token_Scan.j6])
                  | succ kj67 =>
                    have H := HA.out
                    clear HA
                    simp only [token_Scan.j6] at H
                    by_cases c74 : 0 ≤ x14_67
                    · rw [if_pos c74] at H
                      have c74b0 := eq_true c74
                      have c74b1 : decide (0 ≤ x14_67) = true := decide_eq_true c74
                      clear c74
                      by_cases c75 : x14_67 ≤ (bz115.size : Int)
                      · rw [if_pos c75] at H
                        have c75b0 := eq_true c75
                        have c75b1 : decide (x14_67 ≤ (bz115.size : Int)) = true := decide_eq_true c75
                        clear c75
                        replace H := Option.bind_eq_some_iff.mp H
                        obtain ⟨⟨t141, t142⟩, A760, H⟩ := H
                        replace H : (if t142.isNone = true then (if x14_67 < (bz115.size : Int) then (if 0 ≤ (bt bz115 x14_67) then (if (bt bz115 x14_67) < 256 then (if (t110 (bt bz115 x14_67 : Int).toNat) = true then (some (([] : List (S36)), ([] : List (S33)), wrap64 (x10_1 + x14_67), 4)) else (if x8_1.length < 3518437208883 then (token_Scan.l0 kj67 a0 (x8_1 ++ [(⟨3, bz115.extract 0 (x14_67 : Int).toNat, (⟨x10_1, wrap64 (x10_1 + x14_67)⟩ : S33)⟩ : S36)]) x9_1 (wrap64 (x10_1 + x14_67)) t110) else (none))) else (none)) else (none)) else (if x8_1.length < 3518437208883 then (token_Scan.l0 kj67 a0 (x8_1 ++ [(⟨3, bz115.extract 0 (x14_67 : Int).toNat, (⟨x10_1, wrap64 (x10_1 + x14_67)⟩ : S33)⟩ : S36)]) x9_1 (wrap64 (x10_1 + x14_67)) t110) else (none))) else (some (([] : List (S36)), ([] : List (S33)), x10_1, 2))) = some (r1, r2, r3, r4) := H
                        have A76 := Aside0.mk A760
                        clear A760
                        rcases t142 with _ | q143
                        · have H1 : (if x14_67 < (bz115.size : Int) then (if 0 ≤ (bt bz115 x14_67) then (if (bt bz115 x14_67) < 256 then (if (t110 (bt bz115 x14_67 : Int).toNat) = true then (some (([] : List (S36)), ([] : List (S33)), wrap64 (x10_1 + x14_67), 4)) else (if x8_1.length < 3518437208883 then (token_Scan.l0 kj67 a0 (x8_1 ++ [(⟨3, bz115.extract 0 (x14_67 : Int).toNat, (⟨x10_1, wrap64 (x10_1 + x14_67)⟩ : S33)⟩ : S36)]) x9_1 (wrap64 (x10_1 + x14_67)) t110) else (none))) else (none)) else (none)) else (if x8_1.length < 3518437208883 then (token_Scan.l0 kj67 a0 (x8_1 ++ [(⟨3, bz115.extract 0 (x14_67 : Int).toNat, (⟨x10_1, wrap64 (x10_1 + x14_67)⟩ : S33)⟩ : S36)]) x9_1 (wrap64 (x10_1 + x14_67)) t110) else (none))) = some (r1, r2, r3, r4) := by rw [if_pos (show (none : Option Int).isNone = true by rfl)] at H; exact H
                          clear H
                          have H := H1
                          clear H1
                          try simp only [errW_none, errW_some, errL_none, errL_some]
                          by_cases c77 : x14_67 < (bz115.size : Int)
                          · rw [if_pos c77] at H
                            have c77b0 : decide (x14_67 < (bz115.size : Int)) = true := decide_eq_true c77
                            clear c77
                            by_cases c79 : 0 ≤ (bt bz115 x14_67)
                            · rw [if_pos c79] at H
                              have c79b0 : decide (0 ≤ (bt bz115 x14_67)) = true := decide_eq_true c79
                              clear c79
                              by_cases c80 : (bt bz115 x14_67) < 256
                              · rw [if_pos c80] at H
                                have c80b0 : decide ((bt bz115 x14_67) < 256) = true := decide_eq_true c80
                                clear c80
                                by_cases c81 : (t110 (bt bz115 x14_67 : Int).toNat) = true
                                · rw [if_pos c81] at H
                                  have c81b0 : (t110 (bt bz115 x14_67 : Int).toNat) = true := c81
                                  clear c81
                                  simp only [Option.some.injEq, Prod.mk.injEq] at H
                                  obtain ⟨rfl, rfl, rfl, rfl⟩ := H
                                  go_wp2_with (first | ((with_reducible refine gate_callee (f := 27) rfl ?_); refine goesL_ (some 154) rfl rfl Tryd.func27 (by as_aux_lemma => kernel_rfl) rfl #[.string (bz115.extract 0 (x14_67 : Int).toNat), .int .i64 10, .int .i64 64] rfl (by (try simp only [List.map_toArray, List.map_cons, List.map_nil]); first | done | rfl | (simp only [List.length_drop, List.length_take]; rfl)) ?_; (with_reducible refine (strconv_ParseInt.calls (bz115.extract 0 (x14_67 : Int).toNat) 10 64 t141 none _ ?side1 A76.out).mono ?_); (case side1 => exact GOK.below hG.out (by first | exact HB.out | (repeat (first | (with_reducible first | exact HB.out | apply below_alloc | apply pw_below_drewN | apply below_drew1 | refine below_set ?_ GE111.out | refine below_set ?_ GE126.out) | exact HB.out)))); rintro e w82 ⟨nerr_, rfl, hb⟩; refine ⟨_, rfl, ?_⟩; have n0_ := Aside0.mk (Kd.R_below (by (with_reducible repeat (first | apply Kd.R_alloc | apply Kd.R_drewN | apply Kd.R_drew)); exact HO_8.out) hb); have n1_ := Aside0.mk (Kd.R_below (by (with_reducible repeat (first | apply Kd.R_alloc | apply Kd.R_drewN | apply Kd.R_drew)); exact HO_9.out) hb); have n2_ := Aside0.mk (blk_below (g := gb111) (o := .cells (arrB t110) 48 (0, 0)) (by (with_reducible repeat (first | refine blk_drewN ?_ _ | refine blk_drew ?_ | refine blk_alloc ?_ _)); exact BK111.out) hb); have n3_ := Aside0.mk (blk_below (g := gb126) (o := .cells #[.int .i64 0, .string (⟨#[]⟩ : ByteArray), .int .i64 0, .int .i64 0] 36 (0, 0)) (by (with_reducible repeat (first | refine blk_drewN ?_ _ | refine blk_drew ?_ | refine blk_alloc ?_ _)); exact BK126.out) hb); have n4_ := Aside0.mk (below_step (by repeat (first | (with_reducible first | exact HB.out | apply below_alloc | apply pw_below_drewN | apply below_drew1 | refine below_set ?_ GE111.out | refine below_set ?_ GE126.out) | exact HB.out)) hb); clear HO_8; clear HO_9; clear BK111; clear BK126; clear HB; have HO_8 := n0_; have HO_9 := n1_; have BK111 := n2_; have BK126 := n3_; have HB := n4_; clear n0_ n1_ n2_ n3_ n4_; (try clear hb); (try clear hb2); (try clear hk); (try clear hi); (try simp only [errW_none, errW_some, errL_none, errL_some]); have p78 : 0 ≤ (x14_67 : Int) := of_decide_eq_true (by first | (with_reducible assumption) | assumption); have q78 : x14_67 < (bz115.size : Int) := of_decide_eq_true (by first | (with_reducible assumption) | assumption); have hx78 := bt_at bz115 x14_67; replace p78 := eq_true p78; replace q78 := eq_true q78; have hczz83_0 : w82.cell? ⟨gb111, ((bt bz115 x14_67)).toNat, none⟩ = some (.bool (t110 ((bt bz115 x14_67) : Int).toNat)) := arrb_cell BK111.out (bt bz115 x14_67) (by first | (with_reducible assumption) | omega | (first | exact bt_nonneg _ _)) (by first | (with_reducible assumption) | exact bt_lt _ _ | omega); have hfzz83_0 := blk_frozen BK111.out ((bt bz115 x14_67)).toNat; have hidzz83 : (0 ≤ (bt bz115 x14_67) ∧ (bt bz115 x14_67) < 256) = True := eq_true ⟨by first | (with_reducible assumption) | exact bt_nonneg _ _ | omega, by first | (with_reducible assumption) | exact bt_lt _ _ | omega⟩))
                                  (try rw [Exit.noGoto_ret])
                                  refine bodyPost_ret (results_list (rs := [.tmp 2, .tmp 3, .tmp 4, .tmp 5]) rfl (by simp) (.tmp (.tmp (.tmp (.tmp .nil))))) rfl ?_
                                  exact ⟨_, _, by first | rfl | (simp [errW_none, errW_some] <;> rfl) | (simp [*, errW_none, errW_some] <;> rfl), by first | exact Kd.R_nil _ _ _ _ _ | exact Kd.N_nil _ _ _ _ _ | exact Kd.V_nil _ _ _ _ _ | exact Kd.Q_nil _ _ _ _ _ | exact Kd.S_nil _ _ _ _ _, by first | exact Kd.R_nil _ _ _ _ _ | exact Kd.N_nil _ _ _ _ _ | exact Kd.V_nil _ _ _ _ _ | exact Kd.Q_nil _ _ _ _ _ | exact Kd.S_nil _ _ _ _ _, by repeat (first | (with_reducible first | exact HB.out | apply below_alloc | apply pw_below_drewN | apply below_drew1 | refine below_set ?_ GE111.out | refine below_set ?_ GE126.out) | exact HB.out)⟩
                                · rw [if_neg c81] at H
                                  have c81b0 : (t110 (bt bz115 x14_67 : Int).toNat) = false := by simpa using c81
                                  clear c81
                                  have c84b0 := eq_true (of_decide_eq_true (by first | (with_reducible assumption) | assumption) : 0 ≤ x14_67)
                                  have c85b0 := eq_true (of_decide_eq_true (by first | (with_reducible assumption) | assumption) : x14_67 ≤ (bz115.size : Int))
                                  by_cases c86 : x8_1.length < 3518437208883
                                  · rw [if_pos c86] at H
                                    have LMc86 := Aside0.mk c86
                                    clear c86
                                    obtain ⟨y144, hy144⟩ : ∃ y_ : List (S36), y_ = (x8_1 ++ [(⟨3, bz115.extract 0 (x14_67 : Int).toNat, (⟨x10_1, wrap64 (x10_1 + x14_67)⟩ : S33)⟩ : S36)]) := ⟨_, rfl⟩
                                    replace H : (token_Scan.l0 kj67 a0 y144 x9_1 (wrap64 (x10_1 + x14_67)) t110) = some (r1, r2, r3, r4) := by first | (rw [hy144]; with_reducible exact H) | (have H2_ := (Option.bind_some _ _).symm.trans H; rw [hy144]; with_reducible exact H2_) | (have H2_ := (Option.bind_some _ _).symm.trans H; with_reducible exact H2_) | with_reducible exact H | (rw [hy144]; exact H) | exact H
                                    have Ny144 := Aside0.mk hy144
                                    clear hy144
                                    have H' := Aside0.mk H
                                    clear H
                                    go_wp2_with (first | ((with_reducible refine gate_callee (f := 27) rfl ?_); refine goesL_ (some 154) rfl rfl Tryd.func27 (by as_aux_lemma => kernel_rfl) rfl #[.string (bz115.extract 0 (x14_67 : Int).toNat), .int .i64 10, .int .i64 64] rfl (by (try simp only [List.map_toArray, List.map_cons, List.map_nil]); first | done | rfl | (simp only [List.length_drop, List.length_take]; rfl)) ?_; (with_reducible refine (strconv_ParseInt.calls (bz115.extract 0 (x14_67 : Int).toNat) 10 64 t141 none _ ?side1 A76.out).mono ?_); (case side1 => exact GOK.below hG.out (by first | exact HB.out | (repeat (first | (with_reducible first | exact HB.out | apply below_alloc | apply pw_below_drewN | apply below_drew1 | refine below_set ?_ GE111.out | refine below_set ?_ GE126.out) | exact HB.out)))); rintro e w87 ⟨nerr_, rfl, hb⟩; refine ⟨_, rfl, ?_⟩; have n0_ := Aside0.mk (Kd.R_below (by (with_reducible repeat (first | apply Kd.R_alloc | apply Kd.R_drewN | apply Kd.R_drew)); exact HO_8.out) hb); have n1_ := Aside0.mk (Kd.R_below (by (with_reducible repeat (first | apply Kd.R_alloc | apply Kd.R_drewN | apply Kd.R_drew)); exact HO_9.out) hb); have n2_ := Aside0.mk (blk_below (g := gb111) (o := .cells (arrB t110) 48 (0, 0)) (by (with_reducible repeat (first | refine blk_drewN ?_ _ | refine blk_drew ?_ | refine blk_alloc ?_ _)); exact BK111.out) hb); have n3_ := Aside0.mk (blk_below (g := gb126) (o := .cells #[.int .i64 0, .string (⟨#[]⟩ : ByteArray), .int .i64 0, .int .i64 0] 36 (0, 0)) (by (with_reducible repeat (first | refine blk_drewN ?_ _ | refine blk_drew ?_ | refine blk_alloc ?_ _)); exact BK126.out) hb); have n4_ := Aside0.mk (below_step (by repeat (first | (with_reducible first | exact HB.out | apply below_alloc | apply pw_below_drewN | apply below_drew1 | refine below_set ?_ GE111.out | refine below_set ?_ GE126.out) | exact HB.out)) hb); clear HO_8; clear HO_9; clear BK111; clear BK126; clear HB; have HO_8 := n0_; have HO_9 := n1_; have BK111 := n2_; have BK126 := n3_; have HB := n4_; clear n0_ n1_ n2_ n3_ n4_; (try clear hb); (try clear hb2); (try clear hk); (try clear hi); (try simp only [errW_none, errW_some, errL_none, errL_some]); have p78 : 0 ≤ (x14_67 : Int) := of_decide_eq_true (by first | (with_reducible assumption) | assumption); have q78 : x14_67 < (bz115.size : Int) := of_decide_eq_true (by first | (with_reducible assumption) | assumption); have hx78 := bt_at bz115 x14_67; replace p78 := eq_true p78; replace q78 := eq_true q78; have hczz88_0 : w87.cell? ⟨gb111, ((bt bz115 x14_67)).toNat, none⟩ = some (.bool (t110 ((bt bz115 x14_67) : Int).toNat)) := arrb_cell BK111.out (bt bz115 x14_67) (by first | (with_reducible assumption) | omega | (first | exact bt_nonneg _ _)) (by first | (with_reducible assumption) | exact bt_lt _ _ | omega); have hfzz88_0 := blk_frozen BK111.out ((bt bz115 x14_67)).toNat; have hidzz88 : (0 ≤ (bt bz115 x14_67) ∧ (bt bz115 x14_67) < 256) = True := eq_true ⟨by first | (with_reducible assumption) | exact bt_nonneg _ _ | omega, by first | (with_reducible assumption) | exact bt_lt _ _ | omega⟩; have hnb89 := NB126_111.out; have hnc89 := NB111_126.out; have hcz90_0 : w87.cell? ⟨gb126, 0, none⟩ = some (.int .i64 0) := (blk_cell BK126.out 0).trans rfl; have hcz90_1 : w87.cell? ⟨gb126, 1, none⟩ = some (.string (⟨#[]⟩ : ByteArray)) := (blk_cell BK126.out 1).trans rfl; have hcz90_2 : w87.cell? ⟨gb126, 2, none⟩ = some (.int .i64 0) := (blk_cell BK126.out 2).trans rfl; have hcz90_3 : w87.cell? ⟨gb126, 3, none⟩ = some (.int .i64 0) := (blk_cell BK126.out 3).trans rfl; have hfz90_0 := blk_frozen BK126.out 0; have hfz90_1 := blk_frozen BK126.out 1; have hfz90_2 := blk_frozen BK126.out 2; have hfz90_3 := blk_frozen BK126.out 3; have hq0_ := blk_put (cs' := #[.int .i64 3, .string (⟨#[]⟩ : ByteArray), .int .i64 0, .int .i64 0]) BK126.out 0 (.int .i64 3) rfl; have hq1_ := blk_put (cs' := #[.int .i64 3, .string (bz115.extract 0 (x14_67 : Int).toNat), .int .i64 0, .int .i64 0]) hq0_ 1 (.string (bz115.extract 0 (x14_67 : Int).toNat)) rfl; have hq2_ := blk_put (cs' := #[.int .i64 3, .string (bz115.extract 0 (x14_67 : Int).toNat), .int .i64 0, .int .i64 0]) hq1_ 2 (.int .i64 0) rfl; have hq3_ := blk_put (cs' := #[.int .i64 3, .string (bz115.extract 0 (x14_67 : Int).toNat), .int .i64 0, .int .i64 0]) hq2_ 3 (.int .i64 0) rfl; have hdz_0 : ((((w87.setCell ⟨gb126, 0, none⟩ (.int .i64 3)).setCell ⟨gb126, 1, none⟩ (.string (bz115.extract 0 (x14_67 : Int).toNat))).setCell ⟨gb126, 2, none⟩ (.int .i64 0)).setCell ⟨gb126, 3, none⟩ (.int .i64 0)).cell? ⟨gb126, 0, none⟩ = some (.int .i64 3) := (blk_cell hq3_ 0).trans rfl; have hdz_1 : ((((w87.setCell ⟨gb126, 0, none⟩ (.int .i64 3)).setCell ⟨gb126, 1, none⟩ (.string (bz115.extract 0 (x14_67 : Int).toNat))).setCell ⟨gb126, 2, none⟩ (.int .i64 0)).setCell ⟨gb126, 3, none⟩ (.int .i64 0)).cell? ⟨gb126, 1, none⟩ = some (.string (bz115.extract 0 (x14_67 : Int).toNat)) := (blk_cell hq3_ 1).trans rfl; have hdz_2 : ((((w87.setCell ⟨gb126, 0, none⟩ (.int .i64 3)).setCell ⟨gb126, 1, none⟩ (.string (bz115.extract 0 (x14_67 : Int).toNat))).setCell ⟨gb126, 2, none⟩ (.int .i64 0)).setCell ⟨gb126, 3, none⟩ (.int .i64 0)).cell? ⟨gb126, 2, none⟩ = some (.int .i64 0) := (blk_cell hq3_ 2).trans rfl; have hdz_3 : ((((w87.setCell ⟨gb126, 0, none⟩ (.int .i64 3)).setCell ⟨gb126, 1, none⟩ (.string (bz115.extract 0 (x14_67 : Int).toNat))).setCell ⟨gb126, 2, none⟩ (.int .i64 0)).setCell ⟨gb126, 3, none⟩ (.int .i64 0)).cell? ⟨gb126, 3, none⟩ = some (.int .i64 0) := (blk_cell hq3_ 3).trans rfl; clear hq0_ hq1_ hq2_ hq3_) | ((with_reducible refine gate_builtin (b := .append) (xs := #[.tmp 184, .tmp 186]) rfl ?_); (try (refine gate_guard (by rfl) ?_; dsimp only)); at_builtin; refine Kd.R_append k36 (w0 := w) w.heap.size rfl (.tmp 184) (.tmp 186) 23 36 (.agg #[(.int .i64 0), (.string ⟨#[]⟩), (.int .i64 0), (.int .i64 0)]) 40 rfl Tryd.underlying23 info36 rfl (by decide) (by omega) u8 x8_1 (⟨3, bz115.extract 0 (x14_67 : Int).toNat, (⟨x10_1, wrap64 (x10_1 + x14_67)⟩ : S33)⟩ : S36) [.int .i64 3, .string (bz115.extract 0 (x14_67 : Int).toNat), .int .i64 x10_1, .int .i64 (wrap64 (x10_1 + x14_67))] (fun k_ => k_ ≠ gb126) (fun _ => False) rfl (by first | (go_simp; done) | (go_simp; rfl)) ?aP (fun _ hk => hk.elim) ?aF ?aO ?aB ?aS ?aL ?_; (case aP => exact k36_mkM _ _ _ (⟨3, bz115.extract 0 (x14_67 : Int).toNat, (⟨x10_1, wrap64 (x10_1 + x14_67)⟩ : S33)⟩ : S36)); (case aB => exact (by repeat (first | (with_reducible first | exact HB.out | apply below_alloc | apply pw_below_drewN | apply below_drew1 | refine below_set ?_ GE111.out | refine below_set ?_ GE126.out) | exact HB.out))); (case aF => exact (fun k_ hk => Kd.freshB (g := gb126) (o := .cells #[.int .i64 3, .string (bz115.extract 0 (x14_67 : Int).toNat), .int .i64 x10_1, .int .i64 (wrap64 (x10_1 + x14_67))] 36 (0, 0)) (by (with_reducible repeat (first | refine blk_drewN ?_ _ | refine blk_drew ?_ | refine blk_alloc ?_ _)); refine blk_put (cs := #[.int .i64 3, .string (bz115.extract 0 (x14_67 : Int).toNat), .int .i64 x10_1, .int .i64 0]) ?_ 3 _ rfl; (with_reducible repeat (first | refine blk_drewN ?_ _ | refine blk_drew ?_ | refine blk_alloc ?_ _)); refine blk_put (cs := #[.int .i64 3, .string (bz115.extract 0 (x14_67 : Int).toNat), .int .i64 0, .int .i64 0]) ?_ 2 _ rfl; (with_reducible repeat (first | refine blk_drewN ?_ _ | refine blk_drew ?_ | refine blk_alloc ?_ _)); refine blk_put (cs := #[.int .i64 3, .string (bz115.extract 0 (x14_67 : Int).toNat), .int .i64 0, .int .i64 0]) ?_ 3 _ rfl; (with_reducible repeat (first | refine blk_drewN ?_ _ | refine blk_drew ?_ | refine blk_alloc ?_ _)); refine blk_put (cs := #[.int .i64 3, .string (bz115.extract 0 (x14_67 : Int).toNat), .int .i64 0, .int .i64 0]) ?_ 2 _ rfl; (with_reducible repeat (first | refine blk_drewN ?_ _ | refine blk_drew ?_ | refine blk_alloc ?_ _)); refine blk_put (cs := #[.int .i64 3, .string (⟨#[]⟩ : ByteArray), .int .i64 0, .int .i64 0]) ?_ 1 _ rfl; (with_reducible repeat (first | refine blk_drewN ?_ _ | refine blk_drew ?_ | refine blk_alloc ?_ _)); refine blk_put (cs := #[.int .i64 0, .string (⟨#[]⟩ : ByteArray), .int .i64 0, .int .i64 0]) ?_ 0 _ rfl; (with_reducible repeat (first | refine blk_drewN ?_ _ | refine blk_drew ?_ | refine blk_alloc ?_ _)); exact BK126.out) k_ hk)); (case aO => exact (by (with_reducible repeat (first | apply Kd.R_alloc | apply Kd.R_drewN | apply Kd.R_drew)); exact Kd.R_mono (Kd.R_far (p := ⟨gb126, 3, none⟩) (Kd.R_far (p := ⟨gb126, 2, none⟩) (Kd.R_far (p := ⟨gb126, 3, none⟩) (Kd.R_far (p := ⟨gb126, 2, none⟩) (Kd.R_far (p := ⟨gb126, 1, none⟩) (Kd.R_far (p := ⟨gb126, 0, none⟩) (Kd.R_mono HO_8.out (fun k_ hk => (⟨hk, hk⟩ : _ ∧ k_ ≠ gb126))) (fun _ hk => hk.2) (.int .i64 3)) (fun _ hk => hk.2) (.string (bz115.extract 0 (x14_67 : Int).toNat))) (fun _ hk => hk.2) (.int .i64 0)) (fun _ hk => hk.2) (.int .i64 0)) (fun _ hk => hk.2) (.int .i64 x10_1)) (fun _ hk => hk.2) (.int .i64 (wrap64 (x10_1 + x14_67)))) (fun _ hk => hk.1))); (case aS => exact (below_size (by repeat (first | (with_reducible first | exact HB.out | apply below_alloc | apply pw_below_drewN | apply below_drew1 | refine below_set ?_ GE111.out | refine below_set ?_ GE126.out) | exact HB.out)))); (case aL => have := LMc86.out; omega); intro v145 w91 ho hb hg hat; rw [← Ny144.out] at ho; have n0_ := Aside0.mk (Kd.R_over' (by (with_reducible repeat (first | apply Kd.R_alloc | apply Kd.R_drewN | apply Kd.R_drew)); exact (Kd.R_mono (Kd.R_far (p := ⟨gb126, 3, none⟩) (Kd.R_far (p := ⟨gb126, 2, none⟩) (Kd.R_far (p := ⟨gb126, 3, none⟩) (Kd.R_far (p := ⟨gb126, 2, none⟩) (Kd.R_far (p := ⟨gb126, 1, none⟩) (Kd.R_far (p := ⟨gb126, 0, none⟩) (Kd.R_types HO_9.out BK126.out (by decide)) (fun _ hk => hk.2) (.int .i64 3)) (fun _ hk => hk.2) (.string (bz115.extract 0 (x14_67 : Int).toNat))) (fun _ hk => hk.2) (.int .i64 0)) (fun _ hk => hk.2) (.int .i64 0)) (fun _ hk => hk.2) (.int .i64 x10_1)) (fun _ hk => hk.2) (.int .i64 (wrap64 (x10_1 + x14_67)))) (fun _ h_ => h_.1))) (Kd.R_typed (by (with_reducible repeat (first | apply Kd.R_alloc | apply Kd.R_drewN | apply Kd.R_drew)); exact (Kd.R_mono (Kd.R_far (p := ⟨gb126, 3, none⟩) (Kd.R_far (p := ⟨gb126, 2, none⟩) (Kd.R_far (p := ⟨gb126, 3, none⟩) (Kd.R_far (p := ⟨gb126, 2, none⟩) (Kd.R_far (p := ⟨gb126, 1, none⟩) (Kd.R_far (p := ⟨gb126, 0, none⟩) (Kd.R_mono HO_8.out (fun k_ hk => (⟨hk, hk⟩ : _ ∧ k_ ≠ gb126))) (fun _ hk => hk.2) (.int .i64 3)) (fun _ hk => hk.2) (.string (bz115.extract 0 (x14_67 : Int).toNat))) (fun _ hk => hk.2) (.int .i64 0)) (fun _ hk => hk.2) (.int .i64 0)) (fun _ hk => hk.2) (.int .i64 x10_1)) (fun _ hk => hk.2) (.int .i64 (wrap64 (x10_1 + x14_67)))) (fun _ h_ => h_.1)))) (by decide) hg); have n1_ := Aside0.mk (blk_grown (g := gb111) (o := .cells (arrB t110) 48 (0, 0)) (by (with_reducible repeat (first | refine blk_drewN ?_ _ | refine blk_drew ?_ | refine blk_alloc ?_ _)); refine blk_far ?_ NB111_126.out _; (with_reducible repeat (first | refine blk_drewN ?_ _ | refine blk_drew ?_ | refine blk_alloc ?_ _)); refine blk_far ?_ NB111_126.out _; (with_reducible repeat (first | refine blk_drewN ?_ _ | refine blk_drew ?_ | refine blk_alloc ?_ _)); refine blk_far ?_ NB111_126.out _; (with_reducible repeat (first | refine blk_drewN ?_ _ | refine blk_drew ?_ | refine blk_alloc ?_ _)); refine blk_far ?_ NB111_126.out _; (with_reducible repeat (first | refine blk_drewN ?_ _ | refine blk_drew ?_ | refine blk_alloc ?_ _)); refine blk_far ?_ NB111_126.out _; (with_reducible repeat (first | refine blk_drewN ?_ _ | refine blk_drew ?_ | refine blk_alloc ?_ _)); refine blk_far ?_ NB111_126.out _; (with_reducible repeat (first | refine blk_drewN ?_ _ | refine blk_drew ?_ | refine blk_alloc ?_ _)); exact BK111.out) hg (Kd.R_ne HO_8.out BK111.out (by decide))); have n2_ := Aside0.mk (blk_grown (g := gb126) (o := .cells #[.int .i64 3, .string (bz115.extract 0 (x14_67 : Int).toNat), .int .i64 x10_1, .int .i64 (wrap64 (x10_1 + x14_67))] 36 (0, 0)) (by (with_reducible repeat (first | refine blk_drewN ?_ _ | refine blk_drew ?_ | refine blk_alloc ?_ _)); refine blk_put (cs := #[.int .i64 3, .string (bz115.extract 0 (x14_67 : Int).toNat), .int .i64 x10_1, .int .i64 0]) ?_ 3 _ rfl; (with_reducible repeat (first | refine blk_drewN ?_ _ | refine blk_drew ?_ | refine blk_alloc ?_ _)); refine blk_put (cs := #[.int .i64 3, .string (bz115.extract 0 (x14_67 : Int).toNat), .int .i64 0, .int .i64 0]) ?_ 2 _ rfl; (with_reducible repeat (first | refine blk_drewN ?_ _ | refine blk_drew ?_ | refine blk_alloc ?_ _)); refine blk_put (cs := #[.int .i64 3, .string (bz115.extract 0 (x14_67 : Int).toNat), .int .i64 0, .int .i64 0]) ?_ 3 _ rfl; (with_reducible repeat (first | refine blk_drewN ?_ _ | refine blk_drew ?_ | refine blk_alloc ?_ _)); refine blk_put (cs := #[.int .i64 3, .string (bz115.extract 0 (x14_67 : Int).toNat), .int .i64 0, .int .i64 0]) ?_ 2 _ rfl; (with_reducible repeat (first | refine blk_drewN ?_ _ | refine blk_drew ?_ | refine blk_alloc ?_ _)); refine blk_put (cs := #[.int .i64 3, .string (⟨#[]⟩ : ByteArray), .int .i64 0, .int .i64 0]) ?_ 1 _ rfl; (with_reducible repeat (first | refine blk_drewN ?_ _ | refine blk_drew ?_ | refine blk_alloc ?_ _)); refine blk_put (cs := #[.int .i64 0, .string (⟨#[]⟩ : ByteArray), .int .i64 0, .int .i64 0]) ?_ 0 _ rfl; (with_reducible repeat (first | refine blk_drewN ?_ _ | refine blk_drew ?_ | refine blk_alloc ?_ _)); exact BK126.out) hg (Kd.R_away HO_8.out (fun _ hk => hk))); have n3_ := Aside0.mk (hb); have n4_ := Aside0.mk (ho); clear HO_9; clear BK111; clear BK126; clear HB; clear HO_8; have HO_9 := n0_; have BK111 := n1_; have BK126 := n2_; have HB := n3_; have HO146 := n4_; clear n0_ n1_ n2_ n3_ n4_; clear ho hb hg hat))
                                    go_roundg kj67
                                    case measure => have := HK1.out; have := HJ23.out; have := HJ32.out; have := HJ54.out; have := HJ67.out; omega
                                    case rel => exact ⟨(y144), (x9_1), (wrap64 (x10_1 + x14_67)), (by first | rfl | (simp; done) | (simp [*]; done)), H', ⟨by have := HK1.out; have := HJ23.out; have := HJ32.out; have := HJ54.out; have := HJ67.out; omega⟩, ⟨by (with_reducible repeat (first | apply Kd.R_alloc | apply Kd.R_drewN | apply Kd.R_drew)); exact Kd.R_mono HO146.out (fun _ hk => trivial)⟩, ⟨by (with_reducible repeat (first | apply Kd.R_alloc | apply Kd.R_drewN | apply Kd.R_drew)); exact HO_9.out⟩, ⟨by (with_reducible repeat (first | refine blk_drewN ?_ _ | refine blk_drew ?_ | refine blk_alloc ?_ _)); exact BK111.out⟩, ⟨by repeat (first | (with_reducible first | exact HB.out | apply below_alloc | apply pw_below_drewN | apply below_drew1 | refine below_set ?_ GE111.out | refine below_set ?_ GE126.out) | exact HB.out)⟩⟩
                                  · rw [if_neg c86] at H
                                    exact absurd H (by simp)
                              · rw [if_neg c80] at H
                                exact absurd H (by simp)
                            · rw [if_neg c79] at H
                              exact absurd H (by simp)
                          · rw [if_neg c77] at H
                            have c77b0 : decide (x14_67 < (bz115.size : Int)) = false := decide_eq_false c77
                            clear c77
                            have c92b0 := eq_true (of_decide_eq_true (by first | (with_reducible assumption) | assumption) : 0 ≤ x14_67)
                            have c93b0 := eq_true (of_decide_eq_true (by first | (with_reducible assumption) | assumption) : x14_67 ≤ (bz115.size : Int))
                            by_cases c94 : x8_1.length < 3518437208883
                            · rw [if_pos c94] at H
                              have LMc94 := Aside0.mk c94
                              clear c94
                              obtain ⟨y147, hy147⟩ : ∃ y_ : List (S36), y_ = (x8_1 ++ [(⟨3, bz115.extract 0 (x14_67 : Int).toNat, (⟨x10_1, wrap64 (x10_1 + x14_67)⟩ : S33)⟩ : S36)]) := ⟨_, rfl⟩
                              replace H : (token_Scan.l0 kj67 a0 y147 x9_1 (wrap64 (x10_1 + x14_67)) t110) = some (r1, r2, r3, r4) := by first | (rw [hy147]; with_reducible exact H) | (have H2_ := (Option.bind_some _ _).symm.trans H; rw [hy147]; with_reducible exact H2_) | (have H2_ := (Option.bind_some _ _).symm.trans H; with_reducible exact H2_) | with_reducible exact H | (rw [hy147]; exact H) | exact H
                              have Ny147 := Aside0.mk hy147
                              clear hy147
                              have H' := Aside0.mk H
                              clear H
                              go_wp2_with (first | ((with_reducible refine gate_callee (f := 27) rfl ?_); refine goesL_ (some 154) rfl rfl Tryd.func27 (by as_aux_lemma => kernel_rfl) rfl #[.string (bz115.extract 0 (x14_67 : Int).toNat), .int .i64 10, .int .i64 64] rfl (by (try simp only [List.map_toArray, List.map_cons, List.map_nil]); first | done | rfl | (simp only [List.length_drop, List.length_take]; rfl)) ?_; (with_reducible refine (strconv_ParseInt.calls (bz115.extract 0 (x14_67 : Int).toNat) 10 64 t141 none _ ?side1 A76.out).mono ?_); (case side1 => exact GOK.below hG.out (by first | exact HB.out | (repeat (first | (with_reducible first | exact HB.out | apply below_alloc | apply pw_below_drewN | apply below_drew1 | refine below_set ?_ GE111.out | refine below_set ?_ GE126.out) | exact HB.out)))); rintro e w95 ⟨nerr_, rfl, hb⟩; refine ⟨_, rfl, ?_⟩; have n0_ := Aside0.mk (Kd.R_below (by (with_reducible repeat (first | apply Kd.R_alloc | apply Kd.R_drewN | apply Kd.R_drew)); exact HO_8.out) hb); have n1_ := Aside0.mk (Kd.R_below (by (with_reducible repeat (first | apply Kd.R_alloc | apply Kd.R_drewN | apply Kd.R_drew)); exact HO_9.out) hb); have n2_ := Aside0.mk (blk_below (g := gb111) (o := .cells (arrB t110) 48 (0, 0)) (by (with_reducible repeat (first | refine blk_drewN ?_ _ | refine blk_drew ?_ | refine blk_alloc ?_ _)); exact BK111.out) hb); have n3_ := Aside0.mk (blk_below (g := gb126) (o := .cells #[.int .i64 0, .string (⟨#[]⟩ : ByteArray), .int .i64 0, .int .i64 0] 36 (0, 0)) (by (with_reducible repeat (first | refine blk_drewN ?_ _ | refine blk_drew ?_ | refine blk_alloc ?_ _)); exact BK126.out) hb); have n4_ := Aside0.mk (below_step (by repeat (first | (with_reducible first | exact HB.out | apply below_alloc | apply pw_below_drewN | apply below_drew1 | refine below_set ?_ GE111.out | refine below_set ?_ GE126.out) | exact HB.out)) hb); clear HO_8; clear HO_9; clear BK111; clear BK126; clear HB; have HO_8 := n0_; have HO_9 := n1_; have BK111 := n2_; have BK126 := n3_; have HB := n4_; clear n0_ n1_ n2_ n3_ n4_; (try clear hb); (try clear hb2); (try clear hk); (try clear hi); (try simp only [errW_none, errW_some, errL_none, errL_some]); have hnb96 := NB126_111.out; have hnc96 := NB111_126.out; have hcz97_0 : w95.cell? ⟨gb126, 0, none⟩ = some (.int .i64 0) := (blk_cell BK126.out 0).trans rfl; have hcz97_1 : w95.cell? ⟨gb126, 1, none⟩ = some (.string (⟨#[]⟩ : ByteArray)) := (blk_cell BK126.out 1).trans rfl; have hcz97_2 : w95.cell? ⟨gb126, 2, none⟩ = some (.int .i64 0) := (blk_cell BK126.out 2).trans rfl; have hcz97_3 : w95.cell? ⟨gb126, 3, none⟩ = some (.int .i64 0) := (blk_cell BK126.out 3).trans rfl; have hfz97_0 := blk_frozen BK126.out 0; have hfz97_1 := blk_frozen BK126.out 1; have hfz97_2 := blk_frozen BK126.out 2; have hfz97_3 := blk_frozen BK126.out 3; have hq0_ := blk_put (cs' := #[.int .i64 3, .string (⟨#[]⟩ : ByteArray), .int .i64 0, .int .i64 0]) BK126.out 0 (.int .i64 3) rfl; have hq1_ := blk_put (cs' := #[.int .i64 3, .string (bz115.extract 0 (x14_67 : Int).toNat), .int .i64 0, .int .i64 0]) hq0_ 1 (.string (bz115.extract 0 (x14_67 : Int).toNat)) rfl; have hq2_ := blk_put (cs' := #[.int .i64 3, .string (bz115.extract 0 (x14_67 : Int).toNat), .int .i64 0, .int .i64 0]) hq1_ 2 (.int .i64 0) rfl; have hq3_ := blk_put (cs' := #[.int .i64 3, .string (bz115.extract 0 (x14_67 : Int).toNat), .int .i64 0, .int .i64 0]) hq2_ 3 (.int .i64 0) rfl; have hdz_0 : ((((w95.setCell ⟨gb126, 0, none⟩ (.int .i64 3)).setCell ⟨gb126, 1, none⟩ (.string (bz115.extract 0 (x14_67 : Int).toNat))).setCell ⟨gb126, 2, none⟩ (.int .i64 0)).setCell ⟨gb126, 3, none⟩ (.int .i64 0)).cell? ⟨gb126, 0, none⟩ = some (.int .i64 3) := (blk_cell hq3_ 0).trans rfl; have hdz_1 : ((((w95.setCell ⟨gb126, 0, none⟩ (.int .i64 3)).setCell ⟨gb126, 1, none⟩ (.string (bz115.extract 0 (x14_67 : Int).toNat))).setCell ⟨gb126, 2, none⟩ (.int .i64 0)).setCell ⟨gb126, 3, none⟩ (.int .i64 0)).cell? ⟨gb126, 1, none⟩ = some (.string (bz115.extract 0 (x14_67 : Int).toNat)) := (blk_cell hq3_ 1).trans rfl; have hdz_2 : ((((w95.setCell ⟨gb126, 0, none⟩ (.int .i64 3)).setCell ⟨gb126, 1, none⟩ (.string (bz115.extract 0 (x14_67 : Int).toNat))).setCell ⟨gb126, 2, none⟩ (.int .i64 0)).setCell ⟨gb126, 3, none⟩ (.int .i64 0)).cell? ⟨gb126, 2, none⟩ = some (.int .i64 0) := (blk_cell hq3_ 2).trans rfl; have hdz_3 : ((((w95.setCell ⟨gb126, 0, none⟩ (.int .i64 3)).setCell ⟨gb126, 1, none⟩ (.string (bz115.extract 0 (x14_67 : Int).toNat))).setCell ⟨gb126, 2, none⟩ (.int .i64 0)).setCell ⟨gb126, 3, none⟩ (.int .i64 0)).cell? ⟨gb126, 3, none⟩ = some (.int .i64 0) := (blk_cell hq3_ 3).trans rfl; clear hq0_ hq1_ hq2_ hq3_) | ((with_reducible refine gate_builtin (b := .append) (xs := #[.tmp 184, .tmp 186]) rfl ?_); (try (refine gate_guard (by rfl) ?_; dsimp only)); at_builtin; refine Kd.R_append k36 (w0 := w) w.heap.size rfl (.tmp 184) (.tmp 186) 23 36 (.agg #[(.int .i64 0), (.string ⟨#[]⟩), (.int .i64 0), (.int .i64 0)]) 40 rfl Tryd.underlying23 info36 rfl (by decide) (by omega) u8 x8_1 (⟨3, bz115.extract 0 (x14_67 : Int).toNat, (⟨x10_1, wrap64 (x10_1 + x14_67)⟩ : S33)⟩ : S36) [.int .i64 3, .string (bz115.extract 0 (x14_67 : Int).toNat), .int .i64 x10_1, .int .i64 (wrap64 (x10_1 + x14_67))] (fun k_ => k_ ≠ gb126) (fun _ => False) rfl (by first | (go_simp; done) | (go_simp; rfl)) ?aP (fun _ hk => hk.elim) ?aF ?aO ?aB ?aS ?aL ?_; (case aP => exact k36_mkM _ _ _ (⟨3, bz115.extract 0 (x14_67 : Int).toNat, (⟨x10_1, wrap64 (x10_1 + x14_67)⟩ : S33)⟩ : S36)); (case aB => exact (by repeat (first | (with_reducible first | exact HB.out | apply below_alloc | apply pw_below_drewN | apply below_drew1 | refine below_set ?_ GE111.out | refine below_set ?_ GE126.out) | exact HB.out))); (case aF => exact (fun k_ hk => Kd.freshB (g := gb126) (o := .cells #[.int .i64 3, .string (bz115.extract 0 (x14_67 : Int).toNat), .int .i64 x10_1, .int .i64 (wrap64 (x10_1 + x14_67))] 36 (0, 0)) (by (with_reducible repeat (first | refine blk_drewN ?_ _ | refine blk_drew ?_ | refine blk_alloc ?_ _)); refine blk_put (cs := #[.int .i64 3, .string (bz115.extract 0 (x14_67 : Int).toNat), .int .i64 x10_1, .int .i64 0]) ?_ 3 _ rfl; (with_reducible repeat (first | refine blk_drewN ?_ _ | refine blk_drew ?_ | refine blk_alloc ?_ _)); refine blk_put (cs := #[.int .i64 3, .string (bz115.extract 0 (x14_67 : Int).toNat), .int .i64 0, .int .i64 0]) ?_ 2 _ rfl; (with_reducible repeat (first | refine blk_drewN ?_ _ | refine blk_drew ?_ | refine blk_alloc ?_ _)); refine blk_put (cs := #[.int .i64 3, .string (bz115.extract 0 (x14_67 : Int).toNat), .int .i64 0, .int .i64 0]) ?_ 3 _ rfl; (with_reducible repeat (first | refine blk_drewN ?_ _ | refine blk_drew ?_ | refine blk_alloc ?_ _)); refine blk_put (cs := #[.int .i64 3, .string (bz115.extract 0 (x14_67 : Int).toNat), .int .i64 0, .int .i64 0]) ?_ 2 _ rfl; (with_reducible repeat (first | refine blk_drewN ?_ _ | refine blk_drew ?_ | refine blk_alloc ?_ _)); refine blk_put (cs := #[.int .i64 3, .string (⟨#[]⟩ : ByteArray), .int .i64 0, .int .i64 0]) ?_ 1 _ rfl; (with_reducible repeat (first | refine blk_drewN ?_ _ | refine blk_drew ?_ | refine blk_alloc ?_ _)); refine blk_put (cs := #[.int .i64 0, .string (⟨#[]⟩ : ByteArray), .int .i64 0, .int .i64 0]) ?_ 0 _ rfl; (with_reducible repeat (first | refine blk_drewN ?_ _ | refine blk_drew ?_ | refine blk_alloc ?_ _)); exact BK126.out) k_ hk)); (case aO => exact (by (with_reducible repeat (first | apply Kd.R_alloc | apply Kd.R_drewN | apply Kd.R_drew)); exact Kd.R_mono (Kd.R_far (p := ⟨gb126, 3, none⟩) (Kd.R_far (p := ⟨gb126, 2, none⟩) (Kd.R_far (p := ⟨gb126, 3, none⟩) (Kd.R_far (p := ⟨gb126, 2, none⟩) (Kd.R_far (p := ⟨gb126, 1, none⟩) (Kd.R_far (p := ⟨gb126, 0, none⟩) (Kd.R_mono HO_8.out (fun k_ hk => (⟨hk, hk⟩ : _ ∧ k_ ≠ gb126))) (fun _ hk => hk.2) (.int .i64 3)) (fun _ hk => hk.2) (.string (bz115.extract 0 (x14_67 : Int).toNat))) (fun _ hk => hk.2) (.int .i64 0)) (fun _ hk => hk.2) (.int .i64 0)) (fun _ hk => hk.2) (.int .i64 x10_1)) (fun _ hk => hk.2) (.int .i64 (wrap64 (x10_1 + x14_67)))) (fun _ hk => hk.1))); (case aS => exact (below_size (by repeat (first | (with_reducible first | exact HB.out | apply below_alloc | apply pw_below_drewN | apply below_drew1 | refine below_set ?_ GE111.out | refine below_set ?_ GE126.out) | exact HB.out)))); (case aL => have := LMc94.out; omega); intro v148 w98 ho hb hg hat; rw [← Ny147.out] at ho; have n0_ := Aside0.mk (Kd.R_over' (by (with_reducible repeat (first | apply Kd.R_alloc | apply Kd.R_drewN | apply Kd.R_drew)); exact (Kd.R_mono (Kd.R_far (p := ⟨gb126, 3, none⟩) (Kd.R_far (p := ⟨gb126, 2, none⟩) (Kd.R_far (p := ⟨gb126, 3, none⟩) (Kd.R_far (p := ⟨gb126, 2, none⟩) (Kd.R_far (p := ⟨gb126, 1, none⟩) (Kd.R_far (p := ⟨gb126, 0, none⟩) (Kd.R_types HO_9.out BK126.out (by decide)) (fun _ hk => hk.2) (.int .i64 3)) (fun _ hk => hk.2) (.string (bz115.extract 0 (x14_67 : Int).toNat))) (fun _ hk => hk.2) (.int .i64 0)) (fun _ hk => hk.2) (.int .i64 0)) (fun _ hk => hk.2) (.int .i64 x10_1)) (fun _ hk => hk.2) (.int .i64 (wrap64 (x10_1 + x14_67)))) (fun _ h_ => h_.1))) (Kd.R_typed (by (with_reducible repeat (first | apply Kd.R_alloc | apply Kd.R_drewN | apply Kd.R_drew)); exact (Kd.R_mono (Kd.R_far (p := ⟨gb126, 3, none⟩) (Kd.R_far (p := ⟨gb126, 2, none⟩) (Kd.R_far (p := ⟨gb126, 3, none⟩) (Kd.R_far (p := ⟨gb126, 2, none⟩) (Kd.R_far (p := ⟨gb126, 1, none⟩) (Kd.R_far (p := ⟨gb126, 0, none⟩) (Kd.R_mono HO_8.out (fun k_ hk => (⟨hk, hk⟩ : _ ∧ k_ ≠ gb126))) (fun _ hk => hk.2) (.int .i64 3)) (fun _ hk => hk.2) (.string (bz115.extract 0 (x14_67 : Int).toNat))) (fun _ hk => hk.2) (.int .i64 0)) (fun _ hk => hk.2) (.int .i64 0)) (fun _ hk => hk.2) (.int .i64 x10_1)) (fun _ hk => hk.2) (.int .i64 (wrap64 (x10_1 + x14_67)))) (fun _ h_ => h_.1)))) (by decide) hg); have n1_ := Aside0.mk (blk_grown (g := gb111) (o := .cells (arrB t110) 48 (0, 0)) (by (with_reducible repeat (first | refine blk_drewN ?_ _ | refine blk_drew ?_ | refine blk_alloc ?_ _)); refine blk_far ?_ NB111_126.out _; (with_reducible repeat (first | refine blk_drewN ?_ _ | refine blk_drew ?_ | refine blk_alloc ?_ _)); refine blk_far ?_ NB111_126.out _; (with_reducible repeat (first | refine blk_drewN ?_ _ | refine blk_drew ?_ | refine blk_alloc ?_ _)); refine blk_far ?_ NB111_126.out _; (with_reducible repeat (first | refine blk_drewN ?_ _ | refine blk_drew ?_ | refine blk_alloc ?_ _)); refine blk_far ?_ NB111_126.out _; (with_reducible repeat (first | refine blk_drewN ?_ _ | refine blk_drew ?_ | refine blk_alloc ?_ _)); refine blk_far ?_ NB111_126.out _; (with_reducible repeat (first | refine blk_drewN ?_ _ | refine blk_drew ?_ | refine blk_alloc ?_ _)); refine blk_far ?_ NB111_126.out _; (with_reducible repeat (first | refine blk_drewN ?_ _ | refine blk_drew ?_ | refine blk_alloc ?_ _)); exact BK111.out) hg (Kd.R_ne HO_8.out BK111.out (by decide))); have n2_ := Aside0.mk (blk_grown (g := gb126) (o := .cells #[.int .i64 3, .string (bz115.extract 0 (x14_67 : Int).toNat), .int .i64 x10_1, .int .i64 (wrap64 (x10_1 + x14_67))] 36 (0, 0)) (by (with_reducible repeat (first | refine blk_drewN ?_ _ | refine blk_drew ?_ | refine blk_alloc ?_ _)); refine blk_put (cs := #[.int .i64 3, .string (bz115.extract 0 (x14_67 : Int).toNat), .int .i64 x10_1, .int .i64 0]) ?_ 3 _ rfl; (with_reducible repeat (first | refine blk_drewN ?_ _ | refine blk_drew ?_ | refine blk_alloc ?_ _)); refine blk_put (cs := #[.int .i64 3, .string (bz115.extract 0 (x14_67 : Int).toNat), .int .i64 0, .int .i64 0]) ?_ 2 _ rfl; (with_reducible repeat (first | refine blk_drewN ?_ _ | refine blk_drew ?_ | refine blk_alloc ?_ _)); refine blk_put (cs := #[.int .i64 3, .string (bz115.extract 0 (x14_67 : Int).toNat), .int .i64 0, .int .i64 0]) ?_ 3 _ rfl; (with_reducible repeat (first | refine blk_drewN ?_ _ | refine blk_drew ?_ | refine blk_alloc ?_ _)); refine blk_put (cs := #[.int .i64 3, .string (bz115.extract 0 (x14_67 : Int).toNat), .int .i64 0, .int .i64 0]) ?_ 2 _ rfl; (with_reducible repeat (first | refine blk_drewN ?_ _ | refine blk_drew ?_ | refine blk_alloc ?_ _)); refine blk_put (cs := #[.int .i64 3, .string (⟨#[]⟩ : ByteArray), .int .i64 0, .int .i64 0]) ?_ 1 _ rfl; (with_reducible repeat (first | refine blk_drewN ?_ _ | refine blk_drew ?_ | refine blk_alloc ?_ _)); refine blk_put (cs := #[.int .i64 0, .string (⟨#[]⟩ : ByteArray), .int .i64 0, .int .i64 0]) ?_ 0 _ rfl; (with_reducible repeat (first | refine blk_drewN ?_ _ | refine blk_drew ?_ | refine blk_alloc ?_ _)); exact BK126.out) hg (Kd.R_away HO_8.out (fun _ hk => hk))); have n3_ := Aside0.mk (hb); have n4_ := Aside0.mk (ho); clear HO_9; clear BK111; clear BK126; clear HB; clear HO_8; have HO_9 := n0_; have BK111 := n1_; have BK126 := n2_; have HB := n3_; have HO149 := n4_; clear n0_ n1_ n2_ n3_ n4_; clear ho hb hg hat))
                              go_roundg kj67
                              case measure => have := HK1.out; have := HJ23.out; have := HJ32.out; have := HJ54.out; have := HJ67.out; omega
                              case rel => exact ⟨(y147), (x9_1), (wrap64 (x10_1 + x14_67)), (by first | rfl | (simp; done) | (simp [*]; done)), H', ⟨by have := HK1.out; have := HJ23.out; have := HJ32.out; have := HJ54.out; have := HJ67.out; omega⟩, ⟨by (with_reducible repeat (first | apply Kd.R_alloc | apply Kd.R_drewN | apply Kd.R_drew)); exact Kd.R_mono HO149.out (fun _ hk => trivial)⟩, ⟨by (with_reducible repeat (first | apply Kd.R_alloc | apply Kd.R_drewN | apply Kd.R_drew)); exact HO_9.out⟩, ⟨by (with_reducible repeat (first | refine blk_drewN ?_ _ | refine blk_drew ?_ | refine blk_alloc ?_ _)); exact BK111.out⟩, ⟨by repeat (first | (with_reducible first | exact HB.out | apply below_alloc | apply pw_below_drewN | apply below_drew1 | refine below_set ?_ GE111.out | refine below_set ?_ GE126.out) | exact HB.out)⟩⟩
                            · rw [if_neg c94] at H
                              exact absurd H (by simp)
                        · have H1 : (some (([] : List (S36)), ([] : List (S33)), x10_1, 2)) = some (r1, r2, r3, r4) := by rw [if_neg (show ¬ (some q143).isNone = true by simp)] at H; exact H
                          clear H
                          have H := H1
                          clear H1
                          try simp only [errW_none, errW_some, errL_none, errL_some]
                          simp only [Option.some.injEq, Prod.mk.injEq] at H
                          obtain ⟨rfl, rfl, rfl, rfl⟩ := H
                          go_wp2_with (first | ((with_reducible refine gate_callee (f := 27) rfl ?_); refine goesL_ (some 154) rfl rfl Tryd.func27 (by as_aux_lemma => kernel_rfl) rfl #[.string (bz115.extract 0 (x14_67 : Int).toNat), .int .i64 10, .int .i64 64] rfl (by (try simp only [List.map_toArray, List.map_cons, List.map_nil]); first | done | rfl | (simp only [List.length_drop, List.length_take]; rfl)) ?_; (with_reducible refine (strconv_ParseInt.calls (bz115.extract 0 (x14_67 : Int).toNat) 10 64 t141 (some q143) _ ?side1 A76.out).mono ?_); (case side1 => exact GOK.below hG.out (by first | exact HB.out | (repeat (first | (with_reducible first | exact HB.out | apply below_alloc | apply pw_below_drewN | apply below_drew1 | refine below_set ?_ GE111.out | refine below_set ?_ GE126.out) | exact HB.out)))); rintro e w99 ⟨nerr_, rfl, hb⟩; refine ⟨_, rfl, ?_⟩; have n0_ := Aside0.mk (Kd.R_below (by (with_reducible repeat (first | apply Kd.R_alloc | apply Kd.R_drewN | apply Kd.R_drew)); exact HO_8.out) hb); have n1_ := Aside0.mk (Kd.R_below (by (with_reducible repeat (first | apply Kd.R_alloc | apply Kd.R_drewN | apply Kd.R_drew)); exact HO_9.out) hb); have n2_ := Aside0.mk (blk_below (g := gb111) (o := .cells (arrB t110) 48 (0, 0)) (by (with_reducible repeat (first | refine blk_drewN ?_ _ | refine blk_drew ?_ | refine blk_alloc ?_ _)); exact BK111.out) hb); have n3_ := Aside0.mk (blk_below (g := gb126) (o := .cells #[.int .i64 0, .string (⟨#[]⟩ : ByteArray), .int .i64 0, .int .i64 0] 36 (0, 0)) (by (with_reducible repeat (first | refine blk_drewN ?_ _ | refine blk_drew ?_ | refine blk_alloc ?_ _)); exact BK126.out) hb); have n4_ := Aside0.mk (below_step (by repeat (first | (with_reducible first | exact HB.out | apply below_alloc | apply pw_below_drewN | apply below_drew1 | refine below_set ?_ GE111.out | refine below_set ?_ GE126.out) | exact HB.out)) hb); clear HO_8; clear HO_9; clear BK111; clear BK126; clear HB; have HO_8 := n0_; have HO_9 := n1_; have BK111 := n2_; have BK126 := n3_; have HB := n4_; clear n0_ n1_ n2_ n3_ n4_; (try clear hb); (try clear hb2); (try clear hk); (try clear hi); (try simp only [errW_none, errW_some, errL_none, errL_some])))
                          (try rw [Exit.noGoto_ret])
                          refine bodyPost_ret (results_list (rs := [.tmp 2, .tmp 3, .tmp 4, .tmp 5]) rfl (by simp) (.tmp (.tmp (.tmp (.tmp .nil))))) rfl ?_
                          exact ⟨_, _, by first | rfl | (simp [errW_none, errW_some] <;> rfl) | (simp [*, errW_none, errW_some] <;> rfl), by first | exact Kd.R_nil _ _ _ _ _ | exact Kd.N_nil _ _ _ _ _ | exact Kd.V_nil _ _ _ _ _ | exact Kd.Q_nil _ _ _ _ _ | exact Kd.S_nil _ _ _ _ _, by first | exact Kd.R_nil _ _ _ _ _ | exact Kd.N_nil _ _ _ _ _ | exact Kd.V_nil _ _ _ _ _ | exact Kd.Q_nil _ _ _ _ _ | exact Kd.S_nil _ _ _ _ _, by repeat (first | (with_reducible first | exact HB.out | apply below_alloc | apply pw_below_drewN | apply below_drew1 | refine below_set ?_ GE111.out | refine below_set ?_ GE126.out) | exact HB.out)⟩
                      · rw [if_neg c75] at H
                        exact absurd H (by simp)
                    · rw [if_neg c74] at H
                      exact absurd H (by simp)
              · replace c67 := Bool.eq_false_iff.mpr c67
                subst c67
                have H1 : (if (bt a0 x10_1) = 95 then (token_Scan.j7 kj54 a0 x8_1 x9_1 x10_1 bz115 (decide (x14_23 > 1)) t110) else (token_Scan.j7 kj54 a0 x8_1 x9_1 x10_1 bz115 false t110)) = some (r1, r2, r3, r4) := by rw [if_neg (show ¬ (false = true) by decide)] at H; exact H
                clear H
                have H := H1
                clear H1
                have HC100 := Aside0.mk H
                clear H
                go_upto_region 25 with (fail)
                go_cut [82] (fun v82 wc => ∃ (kq : Nat) (x82_99 : Bool), v82 = .bool x82_99 ∧ Aside0 (token_Scan.j7 kq a0 x8_1 x9_1 x10_1 bz115 x82_99 t110 = some (r1, r2, r3, r4)) ∧ Aside0 (kq ≤ kj54) ∧ Aside0 (Kd.R k36 36 wc w.heap.size (fun k_ => k_ ≠ gb126) u8 x8_1) ∧ Aside0 (Kd.R k33 33 wc w.heap.size (fun _ => True) u9 x9_1) ∧ Aside0 (wc.heap[gb111]? = some (.cells (arrB t110) 48 (0, 0))) ∧ Aside0 (wc.heap[gb126]? = some (.cells #[.int .i64 0, .string (⟨#[]⟩ : ByteArray), .int .i64 0, .int .i64 0] 36 (0, 0))) ∧ Aside0 (Below w.heap.size w wc))
                case first =>
                  have H := HC100.out
                  clear HC100
                  by_cases c101 : (bt a0 x10_1) = 95
                  · rw [if_pos c101] at H
                    have c101b0 : ((bt a0 x10_1) == 95) = true := beq_iff_eq.mpr c101
                    have c101b1 : ((bt a0 x10_1) != 95) = false := bne_eq_false_iff_eq.mpr c101
                    clear c101
                    (first | rw [c101b0] | (simp only [i64_w, i32_w]; rw [c101b0]) | skip)
                    have H' := Aside0.mk H
                    clear H
                    go_wp2
                    go_meet
                    case rel => exact ⟨_, (decide (x14_23 > 1)), (by first | rfl | (simp; done) | (simp [*]; done)), H', ⟨by have := HK1.out; have := HJ23.out; have := HJ32.out; have := HJ54.out; first | omega | exact Nat.le_refl _⟩, ⟨by (with_reducible repeat (first | apply Kd.R_alloc | apply Kd.R_drewN | apply Kd.R_drew)); exact HO_8.out⟩, ⟨by (with_reducible repeat (first | apply Kd.R_alloc | apply Kd.R_drewN | apply Kd.R_drew)); exact HO_9.out⟩, ⟨by (with_reducible repeat (first | refine blk_drewN ?_ _ | refine blk_drew ?_ | refine blk_alloc ?_ _)); exact BK111.out⟩, ⟨by (with_reducible repeat (first | refine blk_drewN ?_ _ | refine blk_drew ?_ | refine blk_alloc ?_ _)); exact BK126.out⟩, ⟨by repeat (first | (with_reducible first | exact HB.out | apply below_alloc | apply pw_below_drewN | apply below_drew1 | refine below_set ?_ GE111.out | refine below_set ?_ GE126.out) | exact HB.out)⟩⟩
                  · rw [if_neg c101] at H
                    have c101b0 : ((bt a0 x10_1) == 95) = false := beq_eq_false_iff_ne.mpr c101
                    have c101b1 : ((bt a0 x10_1) != 95) = true := bne_iff_ne.mpr c101
                    (first | rw [c101b0] | (simp only [i64_w, i32_w]; rw [c101b0]) | skip)
                    have H' := Aside0.mk H
                    clear H
                    go_wp2
                    go_meet
                    case rel => exact ⟨_, (false), (by first | rfl | (simp; done) | (simp [*]; done)), H', ⟨by have := HK1.out; have := HJ23.out; have := HJ32.out; have := HJ54.out; first | omega | exact Nat.le_refl _⟩, ⟨by (with_reducible repeat (first | apply Kd.R_alloc | apply Kd.R_drewN | apply Kd.R_drew)); exact HO_8.out⟩, ⟨by (with_reducible repeat (first | apply Kd.R_alloc | apply Kd.R_drewN | apply Kd.R_drew)); exact HO_9.out⟩, ⟨by (with_reducible repeat (first | refine blk_drewN ?_ _ | refine blk_drew ?_ | refine blk_alloc ?_ _)); exact BK111.out⟩, ⟨by (with_reducible repeat (first | refine blk_drewN ?_ _ | refine blk_drew ?_ | refine blk_alloc ?_ _)); exact BK126.out⟩, ⟨by repeat (first | (with_reducible first | exact HB.out | apply below_alloc | apply pw_below_drewN | apply below_drew1 | refine below_set ?_ GE111.out | refine below_set ?_ GE126.out) | exact HB.out)⟩⟩
                case rest =>
                  clear HC100
                  try clear c1
                  try clear p1
                  try clear q1
                  try clear hx1
                  try clear c2
                  try clear c2b0
                  try clear c2b1
                  try clear p2
                  try clear q2
                  try clear hx2
                  try clear c3
                  try clear p3
                  try clear c4
                  try clear c4b0
                  try clear c5
                  try clear c6
                  try clear p6
                  try clear q6
                  try clear hx6
                  try clear qi6
                  try clear c7
                  try clear p7
                  try clear q7
                  try clear hx7
                  try clear c8
                  try clear c9
                  try clear c9b0
                  try clear c10
                  try clear c10b0
                  try clear c11
                  try clear p11
                  try clear q11
                  try clear hx11
                  try clear c12
                  try clear c12b0
                  try clear c13
                  try clear c13b0
                  try clear c13b1
                  try clear q14
                  try clear c15
                  try clear c17
                  try clear c19
                  try clear c19b0
                  try clear c20
                  try clear c21
                  try clear c22
                  try clear c23
                  try clear c24
                  try clear c25
                  try clear c25b0
                  try clear c26
                  try clear c26b0
                  try clear c27
                  try clear p27
                  try clear q27
                  try clear hx27
                  try clear c28
                  try clear c28b0
                  try clear c29
                  try clear c29b0
                  try clear c30
                  try clear c30b0
                  try clear c35
                  try clear c35b0
                  try clear c35b1
                  try clear c36
                  try clear c36b0
                  try clear c37
                  try clear c37b0
                  try clear c38
                  try clear c38b0
                  try clear c42
                  try clear c43
                  try clear c43b0
                  try clear c43b1
                  try clear c44
                  try clear c44b0
                  try clear c44b1
                  try clear c46
                  try clear c46b0
                  try clear c46b1
                  try clear c47
                  try clear c49
                  try clear c53
                  try clear c57
                  try clear c58
                  try clear c58b0
                  try clear c58b1
                  try clear c59
                  try clear c59b0
                  try clear c59b1
                  try clear c60
                  try clear c60b0
                  try clear c60b1
                  try clear p61
                  try clear q61
                  try clear hx61
                  try clear qi61
                  try clear c63
                  try clear p64
                  try clear c67
                  try clear c69
                  try clear c69b0
                  try clear c70
                  try clear c70b0
                  try clear p71
                  try clear q71
                  try clear hx71
                  try clear c73
                  try clear c74
                  try clear c74b0
                  try clear c74b1
                  try clear c75
                  try clear c75b0
                  try clear c75b1
                  try clear c77
                  try clear c77b0
                  try clear p78
                  try clear q78
                  try clear hx78
                  try clear c79
                  try clear c79b0
                  try clear c80
                  try clear c80b0
                  try clear c81
                  try clear c81b0
                  try clear c84
                  try clear c84b0
                  try clear c85
                  try clear c85b0
                  try clear c86
                  try clear c89
                  try clear c92
                  try clear c92b0
                  try clear c93
                  try clear c93b0
                  try clear c94
                  try clear c96
                  try clear c101
                  try clear c101b0
                  try clear c101b1
                  try clear hcz50_0
                  try clear hcz50_1
                  try clear hcz50_2
                  try clear hcz50_3
                  try clear hcz54_0
                  try clear hcz54_1
                  try clear hcz54_2
                  try clear hcz54_3
                  try clear hcz90_0
                  try clear hcz90_1
                  try clear hcz90_2
                  try clear hcz90_3
                  try clear hcz97_0
                  try clear hcz97_1
                  try clear hcz97_2
                  try clear hcz97_3
                  try clear hfz50_0
                  try clear hfz50_1
                  try clear hfz50_2
                  try clear hfz50_3
                  try clear hfz54_0
                  try clear hfz54_1
                  try clear hfz54_2
                  try clear hfz54_3
                  try clear hfz90_0
                  try clear hfz90_1
                  try clear hfz90_2
                  try clear hfz90_3
                  try clear hfz97_0
                  try clear hfz97_1
                  try clear hfz97_2
                  try clear hfz97_3
                  try clear p1
                  try clear p11
                  try clear p2
                  try clear p27
                  try clear p3
                  try clear p6
                  try clear p61
                  try clear p64
                  try clear p7
                  try clear p71
                  try clear p78
                  try clear q1
                  try clear q11
                  try clear q143
                  try clear q2
                  try clear q27
                  try clear q6
                  try clear q61
                  try clear q7
                  try clear q71
                  try clear q78
                  obtain ⟨kq, x82_99, rfl, HA, HJ99, HO_8, HO_9, BK111, BK126, HB⟩ := hcut
                  cases kq with
                  | zero => exact absurd HA.out (by simp [token_Scan.j7])
                  | succ kj99 =>
                    have H := HA.out
                    clear HA
                    simp only [token_Scan.j7] at H
                    by_cases c102 : x82_99 = true
                    · subst c102
                      have H1 : (some (([] : List (S36)), ([] : List (S33)), x10_1, 4)) = some (r1, r2, r3, r4) := by rw [if_pos rfl] at H; exact H
                      clear H
                      have H := H1
                      clear H1
                      simp only [Option.some.injEq, Prod.mk.injEq] at H
                      obtain ⟨rfl, rfl, rfl, rfl⟩ := H
                      go_wp2
                      (try rw [Exit.noGoto_ret])
                      refine bodyPost_ret (results_list (rs := [.tmp 2, .tmp 3, .tmp 4, .tmp 5]) rfl (by simp) (.tmp (.tmp (.tmp (.tmp .nil))))) rfl ?_
                      exact ⟨_, _, by first | rfl | (simp [errW_none, errW_some] <;> rfl) | (simp [*, errW_none, errW_some] <;> rfl), by first | exact Kd.R_nil _ _ _ _ _ | exact Kd.N_nil _ _ _ _ _ | exact Kd.V_nil _ _ _ _ _ | exact Kd.Q_nil _ _ _ _ _ | exact Kd.S_nil _ _ _ _ _, by first | exact Kd.R_nil _ _ _ _ _ | exact Kd.N_nil _ _ _ _ _ | exact Kd.V_nil _ _ _ _ _ | exact Kd.Q_nil _ _ _ _ _ | exact Kd.S_nil _ _ _ _ _, by repeat (first | (with_reducible first | exact HB.out | apply below_alloc | apply pw_below_drewN | apply below_drew1 | refine below_set ?_ GE111.out | refine below_set ?_ GE126.out) | exact HB.out)⟩
                    · replace c102 := Bool.eq_false_iff.mpr c102
                      subst c102
                      have H1 : ((token_punctuation.f kj99 bz115).bind fun t150 => (if t150 = 0 then (some (([] : List (S36)), ([] : List (S33)), x10_1, 4)) else (if 0 ≤ t150 then (if t150 ≤ (bz115.size : Int) then (if x8_1.length < 3518437208883 then (token_Scan.l0 kj99 a0 (x8_1 ++ [(⟨4, bz115.extract 0 (t150 : Int).toNat, (⟨x10_1, wrap64 (x10_1 + t150)⟩ : S33)⟩ : S36)]) x9_1 (wrap64 (x10_1 + t150)) t110) else (none)) else (none)) else (none)))) = some (r1, r2, r3, r4) := by rw [if_neg (show ¬ (false = true) by decide)] at H; exact H
                      clear H
                      have H := H1
                      clear H1
                      replace H := Option.bind_eq_some_iff.mp H
                      obtain ⟨t150, A1030, H⟩ := H
                      replace H : (if t150 = 0 then (some (([] : List (S36)), ([] : List (S33)), x10_1, 4)) else (if 0 ≤ t150 then (if t150 ≤ (bz115.size : Int) then (if x8_1.length < 3518437208883 then (token_Scan.l0 kj99 a0 (x8_1 ++ [(⟨4, bz115.extract 0 (t150 : Int).toNat, (⟨x10_1, wrap64 (x10_1 + t150)⟩ : S33)⟩ : S36)]) x9_1 (wrap64 (x10_1 + t150)) t110) else (none)) else (none)) else (none))) = some (r1, r2, r3, r4) := H
                      have A103 := Aside0.mk A1030
                      clear A1030
                      by_cases c104 : t150 = 0
                      · rw [if_pos c104] at H
                        have c104b0 : (t150 == 0) = true := beq_iff_eq.mpr c104
                        have c104b1 : (t150 != 0) = false := bne_eq_false_iff_eq.mpr c104
                        clear c104
                        simp only [Option.some.injEq, Prod.mk.injEq] at H
                        obtain ⟨rfl, rfl, rfl, rfl⟩ := H
                        go_wp2_with (first | ((with_reducible refine gate_callee (f := 28) rfl ?_); refine goesL_ (some 85) rfl rfl Tryd.func28 (by as_aux_lemma => kernel_rfl) rfl #[.string bz115] rfl (by (try simp only [List.map_toArray, List.map_cons, List.map_nil]); first | done | rfl | (simp only [List.length_drop, List.length_take]; rfl)) ?_; (with_reducible refine (token_punctuation.calls kj99 bz115 t150 _ ?side1 A103.out).mono ?_); (case side1 => exact GOK.below hG.out (by first | exact HB.out | (repeat (first | (with_reducible first | exact HB.out | apply below_alloc | apply pw_below_drewN | apply below_drew1 | refine below_set ?_ GE111.out | refine below_set ?_ GE126.out) | exact HB.out)))); rintro e w' ⟨rfl, ⟨nd, rfl⟩⟩; refine ⟨_, rfl, ?_⟩))
                        (try rw [Exit.noGoto_ret])
                        refine bodyPost_ret (results_list (rs := [.tmp 2, .tmp 3, .tmp 4, .tmp 5]) rfl (by simp) (.tmp (.tmp (.tmp (.tmp .nil))))) rfl ?_
                        exact ⟨_, _, by first | rfl | (simp [errW_none, errW_some] <;> rfl) | (simp [*, errW_none, errW_some] <;> rfl), by first | exact Kd.R_nil _ _ _ _ _ | exact Kd.N_nil _ _ _ _ _ | exact Kd.V_nil _ _ _ _ _ | exact Kd.Q_nil _ _ _ _ _ | exact Kd.S_nil _ _ _ _ _, by first | exact Kd.R_nil _ _ _ _ _ | exact Kd.N_nil _ _ _ _ _ | exact Kd.V_nil _ _ _ _ _ | exact Kd.Q_nil _ _ _ _ _ | exact Kd.S_nil _ _ _ _ _, by repeat (first | (with_reducible first | exact HB.out | apply below_alloc | apply pw_below_drewN | apply below_drew1 | refine below_set ?_ GE111.out | refine below_set ?_ GE126.out) | exact HB.out)⟩
                      · rw [if_neg c104] at H
                        have c104b0 : (t150 == 0) = false := beq_eq_false_iff_ne.mpr c104
                        have c104b1 : (t150 != 0) = true := bne_iff_ne.mpr c104
                        by_cases c105 : 0 ≤ t150
                        · rw [if_pos c105] at H
                          have c105b0 := eq_true c105
                          have c105b1 : decide (0 ≤ t150) = true := decide_eq_true c105
                          clear c105
                          by_cases c106 : t150 ≤ (bz115.size : Int)
                          · rw [if_pos c106] at H
                            have c106b0 := eq_true c106
                            have c106b1 : decide (t150 ≤ (bz115.size : Int)) = true := decide_eq_true c106
                            clear c106
                            by_cases c107 : x8_1.length < 3518437208883
                            · rw [if_pos c107] at H
                              have LMc107 := Aside0.mk c107
                              clear c107
                              obtain ⟨y151, hy151⟩ : ∃ y_ : List (S36), y_ = (x8_1 ++ [(⟨4, bz115.extract 0 (t150 : Int).toNat, (⟨x10_1, wrap64 (x10_1 + t150)⟩ : S33)⟩ : S36)]) := ⟨_, rfl⟩
                              replace H : (token_Scan.l0 kj99 a0 y151 x9_1 (wrap64 (x10_1 + t150)) t110) = some (r1, r2, r3, r4) := by first | (rw [hy151]; with_reducible exact H) | (have H2_ := (Option.bind_some _ _).symm.trans H; rw [hy151]; with_reducible exact H2_) | (have H2_ := (Option.bind_some _ _).symm.trans H; with_reducible exact H2_) | with_reducible exact H | (rw [hy151]; exact H) | exact H
                              have Ny151 := Aside0.mk hy151
                              clear hy151
                              have H' := Aside0.mk H
                              clear H
                              go_wp2_with (first | ((with_reducible refine gate_callee (f := 28) rfl ?_); refine goesL_ (some 85) rfl rfl Tryd.func28 (by as_aux_lemma => kernel_rfl) rfl #[.string bz115] rfl (by (try simp only [List.map_toArray, List.map_cons, List.map_nil]); first | done | rfl | (simp only [List.length_drop, List.length_take]; rfl)) ?_; (with_reducible refine (token_punctuation.calls kj99 bz115 t150 _ ?side1 A103.out).mono ?_); (case side1 => exact GOK.below hG.out (by first | exact HB.out | (repeat (first | (with_reducible first | exact HB.out | apply below_alloc | apply pw_below_drewN | apply below_drew1 | refine below_set ?_ GE111.out | refine below_set ?_ GE126.out) | exact HB.out)))); rintro e w' ⟨rfl, ⟨nd, rfl⟩⟩; refine ⟨_, rfl, ?_⟩; (try (rw [drewN_self wc]; generalize hq_ : World.drewN wc _ = wc; have n0_ : Aside0 (Kd.R k36 36 wc w.heap.size (fun k_ => k_ ≠ gb126) u8 x8_1) := ⟨by rw [← hq_]; exact (by (with_reducible repeat (first | apply Kd.R_alloc | apply Kd.R_drewN | apply Kd.R_drew)); exact HO_8.out)⟩; have n1_ : Aside0 (Kd.R k33 33 wc w.heap.size (fun _ => True) u9 x9_1) := ⟨by rw [← hq_]; exact (by (with_reducible repeat (first | apply Kd.R_alloc | apply Kd.R_drewN | apply Kd.R_drew)); exact HO_9.out)⟩; have n2_ : Aside0 (wc.heap[gb111]? = some (.cells (arrB t110) 48 (0, 0))) := ⟨by rw [← hq_]; exact (by (with_reducible repeat (first | refine blk_drewN ?_ _ | refine blk_drew ?_ | refine blk_alloc ?_ _)); exact BK111.out)⟩; have n3_ : Aside0 (wc.heap[gb126]? = some (.cells #[.int .i64 0, .string (⟨#[]⟩ : ByteArray), .int .i64 0, .int .i64 0] 36 (0, 0))) := ⟨by rw [← hq_]; exact (by (with_reducible repeat (first | refine blk_drewN ?_ _ | refine blk_drew ?_ | refine blk_alloc ?_ _)); exact BK126.out)⟩; have n4_ : Aside0 (Below w.heap.size w wc) := ⟨by rw [← hq_]; exact (by repeat (first | (with_reducible first | exact HB.out | apply below_alloc | apply pw_below_drewN | apply below_drew1 | refine below_set ?_ GE111.out | refine below_set ?_ GE126.out) | exact HB.out))⟩; clear HO_8 HO_9 BK111 BK126 HB hq_; have HO_8 := n0_; have HO_9 := n1_; have BK111 := n2_; have BK126 := n3_; have HB := n4_; clear n0_ n1_ n2_ n3_ n4_)); have hnb108 := NB126_111.out; have hnc108 := NB111_126.out; have hcz109_0 : wc.cell? ⟨gb126, 0, none⟩ = some (.int .i64 0) := (blk_cell BK126.out 0).trans rfl; have hcz109_1 : wc.cell? ⟨gb126, 1, none⟩ = some (.string (⟨#[]⟩ : ByteArray)) := (blk_cell BK126.out 1).trans rfl; have hcz109_2 : wc.cell? ⟨gb126, 2, none⟩ = some (.int .i64 0) := (blk_cell BK126.out 2).trans rfl; have hcz109_3 : wc.cell? ⟨gb126, 3, none⟩ = some (.int .i64 0) := (blk_cell BK126.out 3).trans rfl; have hfz109_0 := blk_frozen BK126.out 0; have hfz109_1 := blk_frozen BK126.out 1; have hfz109_2 := blk_frozen BK126.out 2; have hfz109_3 := blk_frozen BK126.out 3; have hq0_ := blk_put (cs' := #[.int .i64 4, .string (⟨#[]⟩ : ByteArray), .int .i64 0, .int .i64 0]) BK126.out 0 (.int .i64 4) rfl; have hq1_ := blk_put (cs' := #[.int .i64 4, .string (bz115.extract 0 (t150 : Int).toNat), .int .i64 0, .int .i64 0]) hq0_ 1 (.string (bz115.extract 0 (t150 : Int).toNat)) rfl; have hq2_ := blk_put (cs' := #[.int .i64 4, .string (bz115.extract 0 (t150 : Int).toNat), .int .i64 0, .int .i64 0]) hq1_ 2 (.int .i64 0) rfl; have hq3_ := blk_put (cs' := #[.int .i64 4, .string (bz115.extract 0 (t150 : Int).toNat), .int .i64 0, .int .i64 0]) hq2_ 3 (.int .i64 0) rfl; have hdz_0 : ((((wc.setCell ⟨gb126, 0, none⟩ (.int .i64 4)).setCell ⟨gb126, 1, none⟩ (.string (bz115.extract 0 (t150 : Int).toNat))).setCell ⟨gb126, 2, none⟩ (.int .i64 0)).setCell ⟨gb126, 3, none⟩ (.int .i64 0)).cell? ⟨gb126, 0, none⟩ = some (.int .i64 4) := (blk_cell hq3_ 0).trans rfl; have hdz_1 : ((((wc.setCell ⟨gb126, 0, none⟩ (.int .i64 4)).setCell ⟨gb126, 1, none⟩ (.string (bz115.extract 0 (t150 : Int).toNat))).setCell ⟨gb126, 2, none⟩ (.int .i64 0)).setCell ⟨gb126, 3, none⟩ (.int .i64 0)).cell? ⟨gb126, 1, none⟩ = some (.string (bz115.extract 0 (t150 : Int).toNat)) := (blk_cell hq3_ 1).trans rfl; have hdz_2 : ((((wc.setCell ⟨gb126, 0, none⟩ (.int .i64 4)).setCell ⟨gb126, 1, none⟩ (.string (bz115.extract 0 (t150 : Int).toNat))).setCell ⟨gb126, 2, none⟩ (.int .i64 0)).setCell ⟨gb126, 3, none⟩ (.int .i64 0)).cell? ⟨gb126, 2, none⟩ = some (.int .i64 0) := (blk_cell hq3_ 2).trans rfl; have hdz_3 : ((((wc.setCell ⟨gb126, 0, none⟩ (.int .i64 4)).setCell ⟨gb126, 1, none⟩ (.string (bz115.extract 0 (t150 : Int).toNat))).setCell ⟨gb126, 2, none⟩ (.int .i64 0)).setCell ⟨gb126, 3, none⟩ (.int .i64 0)).cell? ⟨gb126, 3, none⟩ = some (.int .i64 0) := (blk_cell hq3_ 3).trans rfl; clear hq0_ hq1_ hq2_ hq3_) | ((with_reducible refine gate_builtin (b := .append) (xs := #[.tmp 184, .tmp 186]) rfl ?_); (try (refine gate_guard (by rfl) ?_; dsimp only)); at_builtin; refine Kd.R_append k36 (w0 := w) w.heap.size rfl (.tmp 184) (.tmp 186) 23 36 (.agg #[(.int .i64 0), (.string ⟨#[]⟩), (.int .i64 0), (.int .i64 0)]) 40 rfl Tryd.underlying23 info36 rfl (by decide) (by omega) u8 x8_1 (⟨4, bz115.extract 0 (t150 : Int).toNat, (⟨x10_1, wrap64 (x10_1 + t150)⟩ : S33)⟩ : S36) [.int .i64 4, .string (bz115.extract 0 (t150 : Int).toNat), .int .i64 x10_1, .int .i64 (wrap64 (x10_1 + t150))] (fun k_ => k_ ≠ gb126) (fun _ => False) rfl (by first | (go_simp; done) | (go_simp; rfl)) ?aP (fun _ hk => hk.elim) ?aF ?aO ?aB ?aS ?aL ?_; (case aP => exact k36_mkM _ _ _ (⟨4, bz115.extract 0 (t150 : Int).toNat, (⟨x10_1, wrap64 (x10_1 + t150)⟩ : S33)⟩ : S36)); (case aB => exact (by repeat (first | (with_reducible first | exact HB.out | apply below_alloc | apply pw_below_drewN | apply below_drew1 | refine below_set ?_ GE111.out | refine below_set ?_ GE126.out) | exact HB.out))); (case aF => exact (fun k_ hk => Kd.freshB (g := gb126) (o := .cells #[.int .i64 4, .string (bz115.extract 0 (t150 : Int).toNat), .int .i64 x10_1, .int .i64 (wrap64 (x10_1 + t150))] 36 (0, 0)) (by (with_reducible repeat (first | refine blk_drewN ?_ _ | refine blk_drew ?_ | refine blk_alloc ?_ _)); refine blk_put (cs := #[.int .i64 4, .string (bz115.extract 0 (t150 : Int).toNat), .int .i64 x10_1, .int .i64 0]) ?_ 3 _ rfl; (with_reducible repeat (first | refine blk_drewN ?_ _ | refine blk_drew ?_ | refine blk_alloc ?_ _)); refine blk_put (cs := #[.int .i64 4, .string (bz115.extract 0 (t150 : Int).toNat), .int .i64 0, .int .i64 0]) ?_ 2 _ rfl; (with_reducible repeat (first | refine blk_drewN ?_ _ | refine blk_drew ?_ | refine blk_alloc ?_ _)); refine blk_put (cs := #[.int .i64 4, .string (bz115.extract 0 (t150 : Int).toNat), .int .i64 0, .int .i64 0]) ?_ 3 _ rfl; (with_reducible repeat (first | refine blk_drewN ?_ _ | refine blk_drew ?_ | refine blk_alloc ?_ _)); refine blk_put (cs := #[.int .i64 4, .string (bz115.extract 0 (t150 : Int).toNat), .int .i64 0, .int .i64 0]) ?_ 2 _ rfl; (with_reducible repeat (first | refine blk_drewN ?_ _ | refine blk_drew ?_ | refine blk_alloc ?_ _)); refine blk_put (cs := #[.int .i64 4, .string (⟨#[]⟩ : ByteArray), .int .i64 0, .int .i64 0]) ?_ 1 _ rfl; (with_reducible repeat (first | refine blk_drewN ?_ _ | refine blk_drew ?_ | refine blk_alloc ?_ _)); refine blk_put (cs := #[.int .i64 0, .string (⟨#[]⟩ : ByteArray), .int .i64 0, .int .i64 0]) ?_ 0 _ rfl; (with_reducible repeat (first | refine blk_drewN ?_ _ | refine blk_drew ?_ | refine blk_alloc ?_ _)); exact BK126.out) k_ hk)); (case aO => exact (by (with_reducible repeat (first | apply Kd.R_alloc | apply Kd.R_drewN | apply Kd.R_drew)); exact Kd.R_mono (Kd.R_far (p := ⟨gb126, 3, none⟩) (Kd.R_far (p := ⟨gb126, 2, none⟩) (Kd.R_far (p := ⟨gb126, 3, none⟩) (Kd.R_far (p := ⟨gb126, 2, none⟩) (Kd.R_far (p := ⟨gb126, 1, none⟩) (Kd.R_far (p := ⟨gb126, 0, none⟩) (Kd.R_mono HO_8.out (fun k_ hk => (⟨hk, hk⟩ : _ ∧ k_ ≠ gb126))) (fun _ hk => hk.2) (.int .i64 4)) (fun _ hk => hk.2) (.string (bz115.extract 0 (t150 : Int).toNat))) (fun _ hk => hk.2) (.int .i64 0)) (fun _ hk => hk.2) (.int .i64 0)) (fun _ hk => hk.2) (.int .i64 x10_1)) (fun _ hk => hk.2) (.int .i64 (wrap64 (x10_1 + t150)))) (fun _ hk => hk.1))); (case aS => exact (below_size (by repeat (first | (with_reducible first | exact HB.out | apply below_alloc | apply pw_below_drewN | apply below_drew1 | refine below_set ?_ GE111.out | refine below_set ?_ GE126.out) | exact HB.out)))); (case aL => have := LMc107.out; omega); intro v152 w110 ho hb hg hat; rw [← Ny151.out] at ho; have n0_ := Aside0.mk (Kd.R_over' (by (with_reducible repeat (first | apply Kd.R_alloc | apply Kd.R_drewN | apply Kd.R_drew)); exact (Kd.R_mono (Kd.R_far (p := ⟨gb126, 3, none⟩) (Kd.R_far (p := ⟨gb126, 2, none⟩) (Kd.R_far (p := ⟨gb126, 3, none⟩) (Kd.R_far (p := ⟨gb126, 2, none⟩) (Kd.R_far (p := ⟨gb126, 1, none⟩) (Kd.R_far (p := ⟨gb126, 0, none⟩) (Kd.R_types HO_9.out BK126.out (by decide)) (fun _ hk => hk.2) (.int .i64 4)) (fun _ hk => hk.2) (.string (bz115.extract 0 (t150 : Int).toNat))) (fun _ hk => hk.2) (.int .i64 0)) (fun _ hk => hk.2) (.int .i64 0)) (fun _ hk => hk.2) (.int .i64 x10_1)) (fun _ hk => hk.2) (.int .i64 (wrap64 (x10_1 + t150)))) (fun _ h_ => h_.1))) (Kd.R_typed (by (with_reducible repeat (first | apply Kd.R_alloc | apply Kd.R_drewN | apply Kd.R_drew)); exact (Kd.R_mono (Kd.R_far (p := ⟨gb126, 3, none⟩) (Kd.R_far (p := ⟨gb126, 2, none⟩) (Kd.R_far (p := ⟨gb126, 3, none⟩) (Kd.R_far (p := ⟨gb126, 2, none⟩) (Kd.R_far (p := ⟨gb126, 1, none⟩) (Kd.R_far (p := ⟨gb126, 0, none⟩) (Kd.R_mono HO_8.out (fun k_ hk => (⟨hk, hk⟩ : _ ∧ k_ ≠ gb126))) (fun _ hk => hk.2) (.int .i64 4)) (fun _ hk => hk.2) (.string (bz115.extract 0 (t150 : Int).toNat))) (fun _ hk => hk.2) (.int .i64 0)) (fun _ hk => hk.2) (.int .i64 0)) (fun _ hk => hk.2) (.int .i64 x10_1)) (fun _ hk => hk.2) (.int .i64 (wrap64 (x10_1 + t150)))) (fun _ h_ => h_.1)))) (by decide) hg); have n1_ := Aside0.mk (blk_grown (g := gb111) (o := .cells (arrB t110) 48 (0, 0)) (by (with_reducible repeat (first | refine blk_drewN ?_ _ | refine blk_drew ?_ | refine blk_alloc ?_ _)); refine blk_far ?_ NB111_126.out _; (with_reducible repeat (first | refine blk_drewN ?_ _ | refine blk_drew ?_ | refine blk_alloc ?_ _)); refine blk_far ?_ NB111_126.out _; (with_reducible repeat (first | refine blk_drewN ?_ _ | refine blk_drew ?_ | refine blk_alloc ?_ _)); refine blk_far ?_ NB111_126.out _; (with_reducible repeat (first | refine blk_drewN ?_ _ | refine blk_drew ?_ | refine blk_alloc ?_ _)); refine blk_far ?_ NB111_126.out _; (with_reducible repeat (first | refine blk_drewN ?_ _ | refine blk_drew ?_ | refine blk_alloc ?_ _)); refine blk_far ?_ NB111_126.out _; (with_reducible repeat (first | refine blk_drewN ?_ _ | refine blk_drew ?_ | refine blk_alloc ?_ _)); refine blk_far ?_ NB111_126.out _; (with_reducible repeat (first | refine blk_drewN ?_ _ | refine blk_drew ?_ | refine blk_alloc ?_ _)); exact BK111.out) hg (Kd.R_ne HO_8.out BK111.out (by decide))); have n2_ := Aside0.mk (blk_grown (g := gb126) (o := .cells #[.int .i64 4, .string (bz115.extract 0 (t150 : Int).toNat), .int .i64 x10_1, .int .i64 (wrap64 (x10_1 + t150))] 36 (0, 0)) (by (with_reducible repeat (first | refine blk_drewN ?_ _ | refine blk_drew ?_ | refine blk_alloc ?_ _)); refine blk_put (cs := #[.int .i64 4, .string (bz115.extract 0 (t150 : Int).toNat), .int .i64 x10_1, .int .i64 0]) ?_ 3 _ rfl; (with_reducible repeat (first | refine blk_drewN ?_ _ | refine blk_drew ?_ | refine blk_alloc ?_ _)); refine blk_put (cs := #[.int .i64 4, .string (bz115.extract 0 (t150 : Int).toNat), .int .i64 0, .int .i64 0]) ?_ 2 _ rfl; (with_reducible repeat (first | refine blk_drewN ?_ _ | refine blk_drew ?_ | refine blk_alloc ?_ _)); refine blk_put (cs := #[.int .i64 4, .string (bz115.extract 0 (t150 : Int).toNat), .int .i64 0, .int .i64 0]) ?_ 3 _ rfl; (with_reducible repeat (first | refine blk_drewN ?_ _ | refine blk_drew ?_ | refine blk_alloc ?_ _)); refine blk_put (cs := #[.int .i64 4, .string (bz115.extract 0 (t150 : Int).toNat), .int .i64 0, .int .i64 0]) ?_ 2 _ rfl; (with_reducible repeat (first | refine blk_drewN ?_ _ | refine blk_drew ?_ | refine blk_alloc ?_ _)); refine blk_put (cs := #[.int .i64 4, .string (⟨#[]⟩ : ByteArray), .int .i64 0, .int .i64 0]) ?_ 1 _ rfl; (with_reducible repeat (first | refine blk_drewN ?_ _ | refine blk_drew ?_ | refine blk_alloc ?_ _)); refine blk_put (cs := #[.int .i64 0, .string (⟨#[]⟩ : ByteArray), .int .i64 0, .int .i64 0]) ?_ 0 _ rfl; (with_reducible repeat (first | refine blk_drewN ?_ _ | refine blk_drew ?_ | refine blk_alloc ?_ _)); exact BK126.out) hg (Kd.R_away HO_8.out (fun _ hk => hk))); have n3_ := Aside0.mk (hb); have n4_ := Aside0.mk (ho); clear HO_9; clear BK111; clear BK126; clear HB; clear HO_8; have HO_9 := n0_; have BK111 := n1_; have BK126 := n2_; have HB := n3_; have HO153 := n4_; clear n0_ n1_ n2_ n3_ n4_; clear ho hb hg hat))
                              go_roundg kj99
                              case measure => have := HK1.out; have := HJ23.out; have := HJ32.out; have := HJ54.out; have := HJ99.out; omega
                              case rel => exact ⟨(y151), (x9_1), (wrap64 (x10_1 + t150)), (by first | rfl | (simp; done) | (simp [*]; done)), H', ⟨by have := HK1.out; have := HJ23.out; have := HJ32.out; have := HJ54.out; have := HJ99.out; omega⟩, ⟨by (with_reducible repeat (first | apply Kd.R_alloc | apply Kd.R_drewN | apply Kd.R_drew)); exact Kd.R_mono HO153.out (fun _ hk => trivial)⟩, ⟨by (with_reducible repeat (first | apply Kd.R_alloc | apply Kd.R_drewN | apply Kd.R_drew)); exact HO_9.out⟩, ⟨by (with_reducible repeat (first | refine blk_drewN ?_ _ | refine blk_drew ?_ | refine blk_alloc ?_ _)); exact BK111.out⟩, ⟨by repeat (first | (with_reducible first | exact HB.out | apply below_alloc | apply pw_below_drewN | apply below_drew1 | refine below_set ?_ GE111.out | refine below_set ?_ GE126.out) | exact HB.out)⟩⟩
                            · rw [if_neg c107] at H
                              exact absurd H (by simp)
                          · rw [if_neg c106] at H
                            exact absurd H (by simp)
                        · rw [if_neg c105] at H
                          exact absurd H (by simp)
theorem token_Scan.calls (k : Nat) (a0 : ByteArray) (r1 : List (S36)) (r2 : List (S33)) (r3 : Int) (r4 : Int) (w : World) (hG : GOK w) (h : token_Scan.f k a0 = some (r1, r2, r3, r4)) :
    Calls Tryd.prog 11 #[.string a0] w fun e w' => ∃ v0_ v1_ : Value, e = .returned (.tuple #[v0_, v1_, .int .i64 r3, .int .i64 r4]) ∧ Kd.R k36 36 w' w.heap.size (fun _ => True) v0_ r1 ∧ Kd.R k33 33 w' w.heap.size (fun _ => True) v1_ r2 ∧ Below w.heap.size w w' :=
  token_Scan.calls.cut.2 ⟨token_Scan.calls.rest⟩ k a0 r1 r2 r3 r4 w hG h

end Go.Proofs.YtenjbcjekjmaeaaDoor.PTok