-- Written by a program of this session's (xprint.py) over the kit's print.
import Derived.Test.YtdnjlmoggnbknaaDoorPIntx17
import Derived.Test.YtdnjlmoggnbknaaDoorPIntx0
import Derived.Test.YtdnjlmoggnbknaaDoorPIntx1
import Derived.Test.YtdnjlmoggnbknaaDoorPIntx6
import Derived.Test.YtdnjlmoggnbknaaDoorPIntx8
import Derived.Test.YtdnjlmoggnbknaaDoorPIntx10
import Derived.Test.YtdnjlmoggnbknaaDoorPIntx13
import Derived.Test.YtdnjlmoggnbknaaDoorPIntD
import Derived.Test.YtdnjlmoggnbknaaDoorAuto
import Derived.Test.YtdnjlmoggnbknaaDoorPIntLIntegerRingsA
namespace Go.Proofs.YtdnjlmoggnbknaaDoor.PInt
open Go.RowKit Go.Proofs.YtdnjlmoggnbknaaDoor.Ext Go.Proofs.YtdnjlmoggnbknaaDoorW.PrintWords Go.Proofs.YtdnjlmoggnbknaaDoorW.PrintLast Go.Proofs.YtdnjlmoggnbknaaDoorW.PrintMore
attribute [local go_sem high] gtr_print leq_print
attribute [local go_sem] max2_int min2_int max_two min_two max_three min_three max_four min_four   -- for this text's walks alone
set_option linter.unusedVariables false
set_option linter.unusedSimpArgs false

/-! ### cellarerlaw02_IntegerRings: function 6 -/
set_option maxHeartbeats 8000000 in
set_option maxRecDepth 100000 in
theorem cellarerlaw02_IntegerRings.calls.rest : cellarerlaw02_IntegerRings.calls.cut.1 := by
  intro k a0 a1 a2 r w hG A4 Qp_h1 w7 HB_h1 wc_h1 u26_h1 u27_h1 u28_h1 u29_h1 u30_h1 u31_h1 u32_h1 u33_h1 u34_h1 u35_h1 u36_h1 u37_h1 u38_h1 u39_h1 u40_h1 u41_h1 u42_h1 u43_h1 u44_h1 u45_h1 u46_h1 u47_h1 u48_h1 u49_h1 u50_h1 u51_h1 u52_h1 u53_h1 u54_h1 u56_h1 u57_h1 u58_h1 u59_h1 u60_h1 u61_h1 u62_h1 u63_h1 u64_h1 u65_h1 u66_h1 u67_h1 u68_h1 u69_h1 u70_h1 u71_h1 u72_h1 u73_h1 u74_h1 u75_h1 u76_h1 u77_h1 u78_h1 u79_h1 u80_h1 u81_h1 u82_h1 u83_h1 u84_h1 u85_h1 u86_h1 u87_h1 u88_h1 u89_h1 u90_h1 u91_h1 u92_h1 u93_h1 u94_h1 u95_h1 u96_h1 u97_h1 u98_h1 u99_h1 u100_h1 u101_h1 u102_h1 u103_h1 u104_h1 u105_h1 u106_h1 u107_h1 u108_h1 u109_h1 u110_h1 u111_h1 u112_h1 u113_h1 u114_h1 u115_h1 u116_h1 u117_h1 u118_h1 u119_h1 u120_h1 u121_h1 u122_h1 u123_h1 u124_h1 u125_h1 u126_h1 u127_h1 u128_h1 u129_h1 u130_h1 u131_h1 u132_h1 u133_h1 u134_h1 u135_h1 u136_h1 u137_h1 u138_h1 u139_h1 u140_h1 u141_h1 u142_h1 u143_h1 u144_h1 u145_h1 u146_h1 u147_h1 u148_h1 u149_h1 u150_h1 u151_h1 u152_h1 u153_h1 u154_h1 u155_h1 u156_h1 u157_h1 u158_h1 u159_h1 u160_h1 u161_h1 u162_h1 u163_h1 u164_h1 u165_h1 u166_h1 u167_h1 u168_h1 u169_h1 u170_h1 u171_h1 u172_h1 u173_h1 u174_h1 u175_h1 u176_h1 u177_h1 u178_h1 u179_h1 u180_h1 u181_h1 u182_h1 u183_h1 u184_h1 u185_h1 u186_h1 u187_h1 u188_h1 u189_h1 u190_h1 u191_h1 u192_h1 u193_h1 u194_h1 u195_h1 u196_h1 u197_h1 u198_h1 u199_h1 u200_h1 u201_h1 u202_h1 u203_h1 u204_h1 u205_h1 u206_h1 u207_h1 u208_h1 u209_h1 u210_h1 u211_h1 u212_h1 u213_h1 u214_h1 u215_h1 u216_h1 u217_h1 u218_h1 u219_h1 kj5 HJ5 t711 t712 A17 t713 t714 A18 t715 t716 A19 t717 t718 A20 t719 t720 A21 HC22 w23 w24 w25 w26 w27 HB K_h1 a_h1 K_h2 a_h2 wc u26 u27 u28 u29 u30 u31 u32 u33 u34 u35 u36 u37 u38 u39 u40 u41 u42 u43 u44 u45 u46 u47 u48 u49 u50 u51 u52 u53 u54 u55 u56 u57 u58 u59 u60 u61 u62 u63 u64 u65 u66 u67 u68 u69 u70 u71 u72 u73 u74 u75 u76 u77 u78 u79 u80 u81 u82 u83 u84 u85 u86 u87 u88 u89 u90 u91 u92 u93 u94 u95 u96 u97 u98 u99 u100 u101 u102 u103 u104 u105 u106 u107 u108 u109 u110 u111 u112 u113 u114 u115 u116 u117 u118 u119 u120 u121 u122 u123 u124 u125 u126 u127 u128 u129 u130 u131 u132 u133 u134 u135 u136 u137 u138 u139 u140 u141 u142 u143 u144 u145 u146 u147 u148 u149 u150 u151 u152 u153 u154 u155 u156 u157 u158 u159 u160 u161 u162 u163 u164 u165 u166 u167 u168 u169 u170 u171 u172 u173 u174 u175 u176 u177 u178 u179 u180 u181 u182 u183 u184 u185 u186 u187 u188 u189 u190 u191 u192 u193 u194 u195 u196 u197 u198 u199 u200 u201 u202 u203 u204 u205 u206 u207 u208 u209 u210 u211 u212 u213 u214 u215 u216 u217 u218 u219 hcut
  clear HC22
  (try clear c1); (try clear c2); (try clear p2); (try clear c3); (try clear c5); (try clear c6); (try clear c8); (try clear c8b0); (try clear c8b1); (try clear c9); (try clear c9b0); (try clear c9b1); (try clear c10); (try clear c10b0); (try clear c10b1); (try clear c11); (try clear c12); (try clear c14); (try clear c16); (try clear c21); (try clear c28); (try clear c28b0); (try clear c28b1); (try clear c29); (try clear c29b0); (try clear c29b1); (try clear c30); (try clear c30b0); (try clear c30b1); (try clear c31); (try clear c31b0); (try clear c31b1); (try clear c32); (try clear c32b0); (try clear c32b1); (try clear c33); (try clear c33b0); (try clear c33b1); (try clear p2)
  obtain ⟨kq, x113_21, rfl, HA, HJ21, HB⟩ := hcut
  cases kq with
  | zero => exact absurd HA.out (by simp [cellarerlaw02_IntegerRings.j1])
  | succ kj21 =>
   have H := HA.out
   clear HA
   simp only [cellarerlaw02_IntegerRings.j1] at H
   by_cases c34 : x113_21 = true
   ·subst c34
    have H1 : (some false) = some r := by rw [if_pos rfl] at H; exact H
    clear H
    have H := H1
    clear H1
    obtain rfl := Option.some.inj H
    go_wp2
    go_ret
    exact ⟨by first | rfl | (simp [errW_none, errW_some] <;> rfl) | (simp [*, errW_none, errW_some] <;> rfl), bel⟩
   ·replace c34 := Bool.eq_false_iff.mpr c34
    subst c34
    have H1 : ((integer_Mul.f kj21 a0 a1).bind fun bt721 => ((integer_Mul.f kj21 a1 a0).bind fun bt723 => ((integer_Mul.f kj21 bt721.1 a2).bind fun bt725 => ((integer_Mul.f kj21 a1 a2).bind fun bt727 => ((integer_Mul.f kj21 a0 bt727.1).bind fun bt729 => (if bt721.2 = 0 then (if bt723.2 = 0 then (if bt725.2 = 0 then (if bt727.2 = 0 then (if bt729.2 = 0 then (if bt721.1.toList = bt723.1.toList then (cellarerlaw02_IntegerRings.j2 kj21 a0 a1 a2 t711 t715 bt721.1 (bt725.1.toList != bt729.1.toList)) else (cellarerlaw02_IntegerRings.j2 kj21 a0 a1 a2 t711 t715 bt721.1 true)) else (cellarerlaw02_IntegerRings.j2 kj21 a0 a1 a2 t711 t715 bt721.1 true)) else (cellarerlaw02_IntegerRings.j2 kj21 a0 a1 a2 t711 t715 bt721.1 true)) else (cellarerlaw02_IntegerRings.j2 kj21 a0 a1 a2 t711 t715 bt721.1 true)) else (cellarerlaw02_IntegerRings.j2 kj21 a0 a1 a2 t711 t715 bt721.1 true)) else (cellarerlaw02_IntegerRings.j2 kj21 a0 a1 a2 t711 t715 bt721.1 true))))))) = some r := by rw [if_neg (show ¬ (false = true) by decide)] at H; exact H
    clear H
    have H := H1
    clear H1
    replace H := Option.bind_eq_some_iff.mp H
    obtain ⟨⟨t721, t722⟩, A350, H⟩ := H
    replace H : ((integer_Mul.f kj21 a1 a0).bind fun bt723 => ((integer_Mul.f kj21 t721 a2).bind fun bt725 => ((integer_Mul.f kj21 a1 a2).bind fun bt727 => ((integer_Mul.f kj21 a0 bt727.1).bind fun bt729 => (if t722 = 0 then (if bt723.2 = 0 then (if bt725.2 = 0 then (if bt727.2 = 0 then (if bt729.2 = 0 then (if t721.toList = bt723.1.toList then (cellarerlaw02_IntegerRings.j2 kj21 a0 a1 a2 t711 t715 t721 (bt725.1.toList != bt729.1.toList)) else (cellarerlaw02_IntegerRings.j2 kj21 a0 a1 a2 t711 t715 t721 true)) else (cellarerlaw02_IntegerRings.j2 kj21 a0 a1 a2 t711 t715 t721 true)) else (cellarerlaw02_IntegerRings.j2 kj21 a0 a1 a2 t711 t715 t721 true)) else (cellarerlaw02_IntegerRings.j2 kj21 a0 a1 a2 t711 t715 t721 true)) else (cellarerlaw02_IntegerRings.j2 kj21 a0 a1 a2 t711 t715 t721 true)) else (cellarerlaw02_IntegerRings.j2 kj21 a0 a1 a2 t711 t715 t721 true)))))) = some r := H
    have A35 := Aside0.mk A350
    clear A350
    replace H := Option.bind_eq_some_iff.mp H
    obtain ⟨⟨t723, t724⟩, A360, H⟩ := H
    replace H : ((integer_Mul.f kj21 t721 a2).bind fun bt725 => ((integer_Mul.f kj21 a1 a2).bind fun bt727 => ((integer_Mul.f kj21 a0 bt727.1).bind fun bt729 => (if t722 = 0 then (if t724 = 0 then (if bt725.2 = 0 then (if bt727.2 = 0 then (if bt729.2 = 0 then (if t721.toList = t723.toList then (cellarerlaw02_IntegerRings.j2 kj21 a0 a1 a2 t711 t715 t721 (bt725.1.toList != bt729.1.toList)) else (cellarerlaw02_IntegerRings.j2 kj21 a0 a1 a2 t711 t715 t721 true)) else (cellarerlaw02_IntegerRings.j2 kj21 a0 a1 a2 t711 t715 t721 true)) else (cellarerlaw02_IntegerRings.j2 kj21 a0 a1 a2 t711 t715 t721 true)) else (cellarerlaw02_IntegerRings.j2 kj21 a0 a1 a2 t711 t715 t721 true)) else (cellarerlaw02_IntegerRings.j2 kj21 a0 a1 a2 t711 t715 t721 true)) else (cellarerlaw02_IntegerRings.j2 kj21 a0 a1 a2 t711 t715 t721 true))))) = some r := H
    have A36 := Aside0.mk A360
    clear A360
    replace H := Option.bind_eq_some_iff.mp H
    obtain ⟨⟨t725, t726⟩, A370, H⟩ := H
    replace H : ((integer_Mul.f kj21 a1 a2).bind fun bt727 => ((integer_Mul.f kj21 a0 bt727.1).bind fun bt729 => (if t722 = 0 then (if t724 = 0 then (if t726 = 0 then (if bt727.2 = 0 then (if bt729.2 = 0 then (if t721.toList = t723.toList then (cellarerlaw02_IntegerRings.j2 kj21 a0 a1 a2 t711 t715 t721 (t725.toList != bt729.1.toList)) else (cellarerlaw02_IntegerRings.j2 kj21 a0 a1 a2 t711 t715 t721 true)) else (cellarerlaw02_IntegerRings.j2 kj21 a0 a1 a2 t711 t715 t721 true)) else (cellarerlaw02_IntegerRings.j2 kj21 a0 a1 a2 t711 t715 t721 true)) else (cellarerlaw02_IntegerRings.j2 kj21 a0 a1 a2 t711 t715 t721 true)) else (cellarerlaw02_IntegerRings.j2 kj21 a0 a1 a2 t711 t715 t721 true)) else (cellarerlaw02_IntegerRings.j2 kj21 a0 a1 a2 t711 t715 t721 true)))) = some r := H
    have A37 := Aside0.mk A370
    clear A370
    replace H := Option.bind_eq_some_iff.mp H
    obtain ⟨⟨t727, t728⟩, A380, H⟩ := H
    replace H : ((integer_Mul.f kj21 a0 t727).bind fun bt729 => (if t722 = 0 then (if t724 = 0 then (if t726 = 0 then (if t728 = 0 then (if bt729.2 = 0 then (if t721.toList = t723.toList then (cellarerlaw02_IntegerRings.j2 kj21 a0 a1 a2 t711 t715 t721 (t725.toList != bt729.1.toList)) else (cellarerlaw02_IntegerRings.j2 kj21 a0 a1 a2 t711 t715 t721 true)) else (cellarerlaw02_IntegerRings.j2 kj21 a0 a1 a2 t711 t715 t721 true)) else (cellarerlaw02_IntegerRings.j2 kj21 a0 a1 a2 t711 t715 t721 true)) else (cellarerlaw02_IntegerRings.j2 kj21 a0 a1 a2 t711 t715 t721 true)) else (cellarerlaw02_IntegerRings.j2 kj21 a0 a1 a2 t711 t715 t721 true)) else (cellarerlaw02_IntegerRings.j2 kj21 a0 a1 a2 t711 t715 t721 true))) = some r := H
    have A38 := Aside0.mk A380
    clear A380
    replace H := Option.bind_eq_some_iff.mp H
    obtain ⟨⟨t729, t730⟩, A390, H⟩ := H
    replace H : (if t722 = 0 then (if t724 = 0 then (if t726 = 0 then (if t728 = 0 then (if t730 = 0 then (if t721.toList = t723.toList then (cellarerlaw02_IntegerRings.j2 kj21 a0 a1 a2 t711 t715 t721 (t725.toList != t729.toList)) else (cellarerlaw02_IntegerRings.j2 kj21 a0 a1 a2 t711 t715 t721 true)) else (cellarerlaw02_IntegerRings.j2 kj21 a0 a1 a2 t711 t715 t721 true)) else (cellarerlaw02_IntegerRings.j2 kj21 a0 a1 a2 t711 t715 t721 true)) else (cellarerlaw02_IntegerRings.j2 kj21 a0 a1 a2 t711 t715 t721 true)) else (cellarerlaw02_IntegerRings.j2 kj21 a0 a1 a2 t711 t715 t721 true)) else (cellarerlaw02_IntegerRings.j2 kj21 a0 a1 a2 t711 t715 t721 true)) = some r := H
    have A39 := Aside0.mk A390
    clear A390
    have HC40 := Aside0.mk H
    clear H
    go_upto_region 17 with (first | ((with_reducible refine gate_callee (f := 26) rfl ?_); refine goesL_ (some 117) rfl rfl Tryd.func26 (by kernel_rfl) rfl #[.string a0, .string a1] rfl ag ?_; (with_reducible refine (integer_Mul.calls kj21 a0 a1 t721 t722 _ ?side1 A35.out).mono ?_); (case side1 => exact GOK.below hG.out bel); rintro e w41 ⟨rfl, hb⟩; refine ⟨_, rfl, ?_⟩; have n0_ := Aside0.mk (below_step bel hb); clear HB; have HB := n0_; clear n0_; (try clear hb); (try clear hb2); (try clear hk); (try clear hi)) | ((with_reducible refine gate_callee (f := 26) rfl ?_); refine goesL_ (some 123) rfl rfl Tryd.func26 (by kernel_rfl) rfl #[.string a1, .string a0] rfl ag ?_; (with_reducible refine (integer_Mul.calls kj21 a1 a0 t723 t724 _ ?side1 A36.out).mono ?_); (case side1 => exact GOK.below hG.out bel); rintro e w42 ⟨rfl, hb⟩; refine ⟨_, rfl, ?_⟩; have n0_ := Aside0.mk (below_step bel hb); clear HB; have HB := n0_; clear n0_; (try clear hb); (try clear hb2); (try clear hk); (try clear hi)) | ((with_reducible refine gate_callee (f := 26) rfl ?_); refine goesL_ (some 129) rfl rfl Tryd.func26 (by kernel_rfl) rfl #[.string t721, .string a2] rfl ag ?_; (with_reducible refine (integer_Mul.calls kj21 t721 a2 t725 t726 _ ?side1 A37.out).mono ?_); (case side1 => exact GOK.below hG.out bel); rintro e w43 ⟨rfl, hb⟩; refine ⟨_, rfl, ?_⟩; have n0_ := Aside0.mk (below_step bel hb); clear HB; have HB := n0_; clear n0_; (try clear hb); (try clear hb2); (try clear hk); (try clear hi)) | ((with_reducible refine gate_callee (f := 26) rfl ?_); refine goesL_ (some 135) rfl rfl Tryd.func26 (by kernel_rfl) rfl #[.string a1, .string a2] rfl ag ?_; (with_reducible refine (integer_Mul.calls kj21 a1 a2 t727 t728 _ ?side1 A38.out).mono ?_); (case side1 => exact GOK.below hG.out bel); rintro e w44 ⟨rfl, hb⟩; refine ⟨_, rfl, ?_⟩; have n0_ := Aside0.mk (below_step bel hb); clear HB; have HB := n0_; clear n0_; (try clear hb); (try clear hb2); (try clear hk); (try clear hi)) | ((with_reducible refine gate_callee (f := 26) rfl ?_); refine goesL_ (some 141) rfl rfl Tryd.func26 (by kernel_rfl) rfl #[.string a0, .string t727] rfl ag ?_; (with_reducible refine (integer_Mul.calls kj21 a0 t727 t729 t730 _ ?side1 A39.out).mono ?_); (case side1 => exact GOK.below hG.out bel); rintro e w45 ⟨rfl, hb⟩; refine ⟨_, rfl, ?_⟩; have n0_ := Aside0.mk (below_step bel hb); clear HB; have HB := n0_; clear n0_; (try clear hb); (try clear hb2); (try clear hk); (try clear hi)))
    (try simp only [Act.put, List.setIfInBounds_toArray, List.set_cons_zero, List.set_cons_succ])
    go_cut [171] (fun v171 wc => ∃ (kq : Nat) (x171_39 : Bool), v171 = .bool x171_39 ∧ Aside0 (cellarerlaw02_IntegerRings.j2 kq a0 a1 a2 t711 t715 t721 x171_39 = some r) ∧ Aside0 (kq ≤ kj21) ∧ Aside0 (Below w.heap.size w wc))
    case first =>
     have H := HC40.out
     clear HC40
     by_cases c46 : t722 = 0
     ·rw [if_pos c46] at H
      have c46b0 : (t722 == 0) = true := beq_iff_eq.mpr c46
      have c46b1 : (t722 != 0) = false := bne_eq_false_iff_eq.mpr c46
      clear c46
      (first | rw [c46b0] | rw [c46b1] | (simp only [i64_w, i32_w]; rw [c46b0]) | skip)
      by_cases c47 : t724 = 0
      ·rw [if_pos c47] at H
       have c47b0 : (t724 == 0) = true := beq_iff_eq.mpr c47
       have c47b1 : (t724 != 0) = false := bne_eq_false_iff_eq.mpr c47
       clear c47
       by_cases c48 : t726 = 0
       ·rw [if_pos c48] at H
        have c48b0 : (t726 == 0) = true := beq_iff_eq.mpr c48
        have c48b1 : (t726 != 0) = false := bne_eq_false_iff_eq.mpr c48
        clear c48
        by_cases c49 : t728 = 0
        ·rw [if_pos c49] at H
         have c49b0 : (t728 == 0) = true := beq_iff_eq.mpr c49
         have c49b1 : (t728 != 0) = false := bne_eq_false_iff_eq.mpr c49
         clear c49
         by_cases c50 : t730 = 0
         ·rw [if_pos c50] at H
          have c50b0 : (t730 == 0) = true := beq_iff_eq.mpr c50
          have c50b1 : (t730 != 0) = false := bne_eq_false_iff_eq.mpr c50
          clear c50
          by_cases c51 : t721.toList = t723.toList
          ·rw [if_pos c51] at H
           have c51b0 : (t721.toList == t723.toList) = true := beq_iff_eq.mpr c51
           have c51b1 : (t721.toList != t723.toList) = false := bne_eq_false_iff_eq.mpr c51
           clear c51
           have H' := Aside0.mk H
           clear H
           go_wp2
           go_meet
           case rel => exact ⟨_, ((t725.toList != t729.toList)), (by first | rfl | (simp; done) | (simp [*]; done)), H', ⟨by have := HJ5.out; have := HJ21.out; first | omega | exact Nat.le_refl _⟩, ⟨bel⟩⟩
          ·rw [if_neg c51] at H
           have c51b0 : (t721.toList == t723.toList) = false := beq_eq_false_iff_ne.mpr c51
           have c51b1 : (t721.toList != t723.toList) = true := bne_iff_ne.mpr c51
           have H' := Aside0.mk H
           clear H
           go_wp2
           go_meet
           case rel => exact ⟨_, (true), (by first | rfl | (simp; done) | (simp [*]; done)), H', ⟨by have := HJ5.out; have := HJ21.out; first | omega | exact Nat.le_refl _⟩, ⟨bel⟩⟩
         ·rw [if_neg c50] at H
          have c50b0 : (t730 == 0) = false := beq_eq_false_iff_ne.mpr c50
          have c50b1 : (t730 != 0) = true := bne_iff_ne.mpr c50
          have H' := Aside0.mk H
          clear H
          go_wp2
          go_meet
          case rel => exact ⟨_, (true), (by first | rfl | (simp; done) | (simp [*]; done)), H', ⟨by have := HJ5.out; have := HJ21.out; first | omega | exact Nat.le_refl _⟩, ⟨bel⟩⟩
        ·rw [if_neg c49] at H
         have c49b0 : (t728 == 0) = false := beq_eq_false_iff_ne.mpr c49
         have c49b1 : (t728 != 0) = true := bne_iff_ne.mpr c49
         have H' := Aside0.mk H
         clear H
         go_wp2
         go_meet
         case rel => exact ⟨_, (true), (by first | rfl | (simp; done) | (simp [*]; done)), H', ⟨by have := HJ5.out; have := HJ21.out; first | omega | exact Nat.le_refl _⟩, ⟨bel⟩⟩
       ·rw [if_neg c48] at H
        have c48b0 : (t726 == 0) = false := beq_eq_false_iff_ne.mpr c48
        have c48b1 : (t726 != 0) = true := bne_iff_ne.mpr c48
        have H' := Aside0.mk H
        clear H
        go_wp2
        go_meet
        case rel => exact ⟨_, (true), (by first | rfl | (simp; done) | (simp [*]; done)), H', ⟨by have := HJ5.out; have := HJ21.out; first | omega | exact Nat.le_refl _⟩, ⟨bel⟩⟩
      ·rw [if_neg c47] at H
       have c47b0 : (t724 == 0) = false := beq_eq_false_iff_ne.mpr c47
       have c47b1 : (t724 != 0) = true := bne_iff_ne.mpr c47
       have H' := Aside0.mk H
       clear H
       go_wp2
       go_meet
       case rel => exact ⟨_, (true), (by first | rfl | (simp; done) | (simp [*]; done)), H', ⟨by have := HJ5.out; have := HJ21.out; first | omega | exact Nat.le_refl _⟩, ⟨bel⟩⟩
     ·rw [if_neg c46] at H
      have c46b0 : (t722 == 0) = false := beq_eq_false_iff_ne.mpr c46
      have c46b1 : (t722 != 0) = true := bne_iff_ne.mpr c46
      (first | rw [c46b0] | rw [c46b1] | (simp only [i64_w, i32_w]; rw [c46b0]) | skip)
      have H' := Aside0.mk H
      clear H
      go_wp2
      go_meet
      case rel => exact ⟨_, (true), (by first | rfl | (simp; done) | (simp [*]; done)), H', ⟨by have := HJ5.out; have := HJ21.out; first | omega | exact Nat.le_refl _⟩, ⟨bel⟩⟩
    case rest =>
     clear HC40
     (try clear c1); (try clear c2); (try clear p2); (try clear c3); (try clear c4); (try clear c5); (try clear c6); (try clear c8); (try clear c8b0); (try clear c8b1); (try clear c9); (try clear c9b0); (try clear c9b1); (try clear c10); (try clear c10b0); (try clear c10b1); (try clear c11); (try clear c12); (try clear c14); (try clear c16); (try clear c21); (try clear c26); (try clear c28); (try clear c28b0); (try clear c28b1); (try clear c29); (try clear c29b0); (try clear c29b1); (try clear c30); (try clear c30b0); (try clear c30b1); (try clear c31); (try clear c31b0); (try clear c31b1); (try clear c32); (try clear c32b0); (try clear c32b1); (try clear c33); (try clear c33b0); (try clear c33b1); (try clear c34); (try clear c46); (try clear c46b0); (try clear c46b1); (try clear c47); (try clear c47b0); (try clear c47b1); (try clear c48); (try clear c48b0); (try clear c48b1); (try clear c49); (try clear c49b0); (try clear c49b1); (try clear c50); (try clear c50b0); (try clear c50b1); (try clear c51); (try clear c51b0); (try clear c51b1); (try clear p2)
     obtain ⟨kq, x171_39, rfl, HA, HJ39, HB⟩ := hcut
     cases kq with
     | zero => exact absurd HA.out (by simp [cellarerlaw02_IntegerRings.j2])
     | succ kj39 =>
      have H := HA.out
      clear HA
      simp only [cellarerlaw02_IntegerRings.j2] at H
      by_cases c52 : x171_39 = true
      ·subst c52
       have H1 : (some false) = some r := by rw [if_pos rfl] at H; exact H
       clear H
       have H := H1
       clear H1
       obtain rfl := Option.some.inj H
       go_wp2
       go_ret
       exact ⟨by first | rfl | (simp [errW_none, errW_some] <;> rfl) | (simp [*, errW_none, errW_some] <;> rfl), bel⟩
      ·replace c52 := Bool.eq_false_iff.mpr c52
       subst c52
       have H1 : ((integer_Mul.f kj39 a0 t715).bind fun bt731 => ((integer_Mul.f kj39 a0 a2).bind fun bt733 => ((integer_Add.f kj39 t721 bt733.1).bind fun bt735 => ((integer_Sub.f kj39 t711 a1).bind fun bt737 => (if bt731.2 = 0 then (if bt733.2 = 0 then (if bt735.2 = 0 then (if bt737.2 = 0 then (if bt731.1.toList = bt735.1.toList then (some (bt737.1.toList == a0.toList)) else (some false)) else (some false)) else (some false)) else (some false)) else (some false)))))) = some r := by rw [if_neg (show ¬ (false = true) by decide)] at H; exact H
       clear H
       have H := H1
       clear H1
       replace H := Option.bind_eq_some_iff.mp H
       obtain ⟨⟨t731, t732⟩, A530, H⟩ := H
       replace H : ((integer_Mul.f kj39 a0 a2).bind fun bt733 => ((integer_Add.f kj39 t721 bt733.1).bind fun bt735 => ((integer_Sub.f kj39 t711 a1).bind fun bt737 => (if t732 = 0 then (if bt733.2 = 0 then (if bt735.2 = 0 then (if bt737.2 = 0 then (if t731.toList = bt735.1.toList then (some (bt737.1.toList == a0.toList)) else (some false)) else (some false)) else (some false)) else (some false)) else (some false))))) = some r := H
       have A53 := Aside0.mk A530
       clear A530
       replace H := Option.bind_eq_some_iff.mp H
       obtain ⟨⟨t733, t734⟩, A540, H⟩ := H
       replace H : ((integer_Add.f kj39 t721 t733).bind fun bt735 => ((integer_Sub.f kj39 t711 a1).bind fun bt737 => (if t732 = 0 then (if t734 = 0 then (if bt735.2 = 0 then (if bt737.2 = 0 then (if t731.toList = bt735.1.toList then (some (bt737.1.toList == a0.toList)) else (some false)) else (some false)) else (some false)) else (some false)) else (some false)))) = some r := H
       have A54 := Aside0.mk A540
       clear A540
       replace H := Option.bind_eq_some_iff.mp H
       obtain ⟨⟨t735, t736⟩, A550, H⟩ := H
       replace H : ((integer_Sub.f kj39 t711 a1).bind fun bt737 => (if t732 = 0 then (if t734 = 0 then (if t736 = 0 then (if bt737.2 = 0 then (if t731.toList = t735.toList then (some (bt737.1.toList == a0.toList)) else (some false)) else (some false)) else (some false)) else (some false)) else (some false))) = some r := H
       have A55 := Aside0.mk A550
       clear A550
       replace H := Option.bind_eq_some_iff.mp H
       obtain ⟨⟨t737, t738⟩, A560, H⟩ := H
       replace H : (if t732 = 0 then (if t734 = 0 then (if t736 = 0 then (if t738 = 0 then (if t731.toList = t735.toList then (some (t737.toList == a0.toList)) else (some false)) else (some false)) else (some false)) else (some false)) else (some false)) = some r := H
       have A56 := Aside0.mk A560
       clear A560
       by_cases c57 : t732 = 0
       ·rw [if_pos c57] at H
        have c57b0 : (t732 == 0) = true := beq_iff_eq.mpr c57
        have c57b1 : (t732 != 0) = false := bne_eq_false_iff_eq.mpr c57
        clear c57
        by_cases c58 : t734 = 0
        ·rw [if_pos c58] at H
         have c58b0 : (t734 == 0) = true := beq_iff_eq.mpr c58
         have c58b1 : (t734 != 0) = false := bne_eq_false_iff_eq.mpr c58
         clear c58
         by_cases c59 : t736 = 0
         ·rw [if_pos c59] at H
          have c59b0 : (t736 == 0) = true := beq_iff_eq.mpr c59
          have c59b1 : (t736 != 0) = false := bne_eq_false_iff_eq.mpr c59
          clear c59
          by_cases c60 : t738 = 0
          ·rw [if_pos c60] at H
           have c60b0 : (t738 == 0) = true := beq_iff_eq.mpr c60
           have c60b1 : (t738 != 0) = false := bne_eq_false_iff_eq.mpr c60
           clear c60
           by_cases c61 : t731.toList = t735.toList
           ·rw [if_pos c61] at H
            have c61b0 : (t731.toList == t735.toList) = true := beq_iff_eq.mpr c61
            have c61b1 : (t731.toList != t735.toList) = false := bne_eq_false_iff_eq.mpr c61
            clear c61
            obtain rfl := Option.some.inj H
            go_wp2_with (first | ((with_reducible refine gate_callee (f := 26) rfl ?_); refine goesL_ (some 175) rfl rfl Tryd.func26 (by kernel_rfl) rfl #[.string a0, .string t715] rfl ag ?_; (with_reducible refine (integer_Mul.calls kj39 a0 t715 t731 t732 _ ?side1 A53.out).mono ?_); (case side1 => exact GOK.below hG.out bel); rintro e w62 ⟨rfl, hb⟩; refine ⟨_, rfl, ?_⟩; have n0_ := Aside0.mk (below_step bel hb); clear HB; have HB := n0_; clear n0_; (try clear hb); (try clear hb2); (try clear hk); (try clear hi)) | ((with_reducible refine gate_callee (f := 26) rfl ?_); refine goesL_ (some 181) rfl rfl Tryd.func26 (by kernel_rfl) rfl #[.string a0, .string a2] rfl ag ?_; (with_reducible refine (integer_Mul.calls kj39 a0 a2 t733 t734 _ ?side1 A54.out).mono ?_); (case side1 => exact GOK.below hG.out bel); rintro e w63 ⟨rfl, hb⟩; refine ⟨_, rfl, ?_⟩; have n0_ := Aside0.mk (below_step bel hb); clear HB; have HB := n0_; clear n0_; (try clear hb); (try clear hb2); (try clear hk); (try clear hi)) | ((with_reducible refine gate_callee (f := 21) rfl ?_); refine goesL_ (some 187) rfl rfl Tryd.func21 (by kernel_rfl) rfl #[.string t721, .string t733] rfl ag ?_; (with_reducible refine (integer_Add.calls kj39 t721 t733 t735 t736 _ ?side1 A55.out).mono ?_); (case side1 => exact GOK.below hG.out bel); rintro e w64 ⟨rfl, hb⟩; refine ⟨_, rfl, ?_⟩; have n0_ := Aside0.mk (below_step bel hb); clear HB; have HB := n0_; clear n0_; (try clear hb); (try clear hb2); (try clear hk); (try clear hi)) | ((with_reducible refine gate_callee (f := 22) rfl ?_); refine goesL_ (some 193) rfl rfl Tryd.func22 (by kernel_rfl) rfl #[.string t711, .string a1] rfl ag ?_; (with_reducible refine (integer_Sub.calls kj39 t711 a1 t737 t738 _ ?side1 A56.out).mono ?_); (case side1 => exact GOK.below hG.out bel); rintro e w65 ⟨rfl, hb⟩; refine ⟨_, rfl, ?_⟩; have n0_ := Aside0.mk (below_step bel hb); clear HB; have HB := n0_; clear n0_; (try clear hb); (try clear hb2); (try clear hk); (try clear hi)))
            go_ret
            exact ⟨by first | rfl | (simp [errW_none, errW_some] <;> rfl) | (simp [*, errW_none, errW_some] <;> rfl), bel⟩
           ·rw [if_neg c61] at H
            have c61b0 : (t731.toList == t735.toList) = false := beq_eq_false_iff_ne.mpr c61
            have c61b1 : (t731.toList != t735.toList) = true := bne_iff_ne.mpr c61
            obtain rfl := Option.some.inj H
            go_wp2_with (first | ((with_reducible refine gate_callee (f := 26) rfl ?_); refine goesL_ (some 175) rfl rfl Tryd.func26 (by kernel_rfl) rfl #[.string a0, .string t715] rfl ag ?_; (with_reducible refine (integer_Mul.calls kj39 a0 t715 t731 t732 _ ?side1 A53.out).mono ?_); (case side1 => exact GOK.below hG.out bel); rintro e w66 ⟨rfl, hb⟩; refine ⟨_, rfl, ?_⟩; have n0_ := Aside0.mk (below_step bel hb); clear HB; have HB := n0_; clear n0_; (try clear hb); (try clear hb2); (try clear hk); (try clear hi)) | ((with_reducible refine gate_callee (f := 26) rfl ?_); refine goesL_ (some 181) rfl rfl Tryd.func26 (by kernel_rfl) rfl #[.string a0, .string a2] rfl ag ?_; (with_reducible refine (integer_Mul.calls kj39 a0 a2 t733 t734 _ ?side1 A54.out).mono ?_); (case side1 => exact GOK.below hG.out bel); rintro e w67 ⟨rfl, hb⟩; refine ⟨_, rfl, ?_⟩; have n0_ := Aside0.mk (below_step bel hb); clear HB; have HB := n0_; clear n0_; (try clear hb); (try clear hb2); (try clear hk); (try clear hi)) | ((with_reducible refine gate_callee (f := 21) rfl ?_); refine goesL_ (some 187) rfl rfl Tryd.func21 (by kernel_rfl) rfl #[.string t721, .string t733] rfl ag ?_; (with_reducible refine (integer_Add.calls kj39 t721 t733 t735 t736 _ ?side1 A55.out).mono ?_); (case side1 => exact GOK.below hG.out bel); rintro e w68 ⟨rfl, hb⟩; refine ⟨_, rfl, ?_⟩; have n0_ := Aside0.mk (below_step bel hb); clear HB; have HB := n0_; clear n0_; (try clear hb); (try clear hb2); (try clear hk); (try clear hi)) | ((with_reducible refine gate_callee (f := 22) rfl ?_); refine goesL_ (some 193) rfl rfl Tryd.func22 (by kernel_rfl) rfl #[.string t711, .string a1] rfl ag ?_; (with_reducible refine (integer_Sub.calls kj39 t711 a1 t737 t738 _ ?side1 A56.out).mono ?_); (case side1 => exact GOK.below hG.out bel); rintro e w69 ⟨rfl, hb⟩; refine ⟨_, rfl, ?_⟩; have n0_ := Aside0.mk (below_step bel hb); clear HB; have HB := n0_; clear n0_; (try clear hb); (try clear hb2); (try clear hk); (try clear hi)))
            go_ret
            exact ⟨by first | rfl | (simp [errW_none, errW_some] <;> rfl) | (simp [*, errW_none, errW_some] <;> rfl), bel⟩
          ·rw [if_neg c60] at H
           have c60b0 : (t738 == 0) = false := beq_eq_false_iff_ne.mpr c60
           have c60b1 : (t738 != 0) = true := bne_iff_ne.mpr c60
           obtain rfl := Option.some.inj H
           go_wp2_with (first | ((with_reducible refine gate_callee (f := 26) rfl ?_); refine goesL_ (some 175) rfl rfl Tryd.func26 (by kernel_rfl) rfl #[.string a0, .string t715] rfl ag ?_; (with_reducible refine (integer_Mul.calls kj39 a0 t715 t731 t732 _ ?side1 A53.out).mono ?_); (case side1 => exact GOK.below hG.out bel); rintro e w70 ⟨rfl, hb⟩; refine ⟨_, rfl, ?_⟩; have n0_ := Aside0.mk (below_step bel hb); clear HB; have HB := n0_; clear n0_; (try clear hb); (try clear hb2); (try clear hk); (try clear hi)) | ((with_reducible refine gate_callee (f := 26) rfl ?_); refine goesL_ (some 181) rfl rfl Tryd.func26 (by kernel_rfl) rfl #[.string a0, .string a2] rfl ag ?_; (with_reducible refine (integer_Mul.calls kj39 a0 a2 t733 t734 _ ?side1 A54.out).mono ?_); (case side1 => exact GOK.below hG.out bel); rintro e w71 ⟨rfl, hb⟩; refine ⟨_, rfl, ?_⟩; have n0_ := Aside0.mk (below_step bel hb); clear HB; have HB := n0_; clear n0_; (try clear hb); (try clear hb2); (try clear hk); (try clear hi)) | ((with_reducible refine gate_callee (f := 21) rfl ?_); refine goesL_ (some 187) rfl rfl Tryd.func21 (by kernel_rfl) rfl #[.string t721, .string t733] rfl ag ?_; (with_reducible refine (integer_Add.calls kj39 t721 t733 t735 t736 _ ?side1 A55.out).mono ?_); (case side1 => exact GOK.below hG.out bel); rintro e w72 ⟨rfl, hb⟩; refine ⟨_, rfl, ?_⟩; have n0_ := Aside0.mk (below_step bel hb); clear HB; have HB := n0_; clear n0_; (try clear hb); (try clear hb2); (try clear hk); (try clear hi)) | ((with_reducible refine gate_callee (f := 22) rfl ?_); refine goesL_ (some 193) rfl rfl Tryd.func22 (by kernel_rfl) rfl #[.string t711, .string a1] rfl ag ?_; (with_reducible refine (integer_Sub.calls kj39 t711 a1 t737 t738 _ ?side1 A56.out).mono ?_); (case side1 => exact GOK.below hG.out bel); rintro e w73 ⟨rfl, hb⟩; refine ⟨_, rfl, ?_⟩; have n0_ := Aside0.mk (below_step bel hb); clear HB; have HB := n0_; clear n0_; (try clear hb); (try clear hb2); (try clear hk); (try clear hi)))
           go_ret
           exact ⟨by first | rfl | (simp [errW_none, errW_some] <;> rfl) | (simp [*, errW_none, errW_some] <;> rfl), bel⟩
         ·rw [if_neg c59] at H
          have c59b0 : (t736 == 0) = false := beq_eq_false_iff_ne.mpr c59
          have c59b1 : (t736 != 0) = true := bne_iff_ne.mpr c59
          obtain rfl := Option.some.inj H
          go_wp2_with (first | ((with_reducible refine gate_callee (f := 26) rfl ?_); refine goesL_ (some 175) rfl rfl Tryd.func26 (by kernel_rfl) rfl #[.string a0, .string t715] rfl ag ?_; (with_reducible refine (integer_Mul.calls kj39 a0 t715 t731 t732 _ ?side1 A53.out).mono ?_); (case side1 => exact GOK.below hG.out bel); rintro e w74 ⟨rfl, hb⟩; refine ⟨_, rfl, ?_⟩; have n0_ := Aside0.mk (below_step bel hb); clear HB; have HB := n0_; clear n0_; (try clear hb); (try clear hb2); (try clear hk); (try clear hi)) | ((with_reducible refine gate_callee (f := 26) rfl ?_); refine goesL_ (some 181) rfl rfl Tryd.func26 (by kernel_rfl) rfl #[.string a0, .string a2] rfl ag ?_; (with_reducible refine (integer_Mul.calls kj39 a0 a2 t733 t734 _ ?side1 A54.out).mono ?_); (case side1 => exact GOK.below hG.out bel); rintro e w75 ⟨rfl, hb⟩; refine ⟨_, rfl, ?_⟩; have n0_ := Aside0.mk (below_step bel hb); clear HB; have HB := n0_; clear n0_; (try clear hb); (try clear hb2); (try clear hk); (try clear hi)) | ((with_reducible refine gate_callee (f := 21) rfl ?_); refine goesL_ (some 187) rfl rfl Tryd.func21 (by kernel_rfl) rfl #[.string t721, .string t733] rfl ag ?_; (with_reducible refine (integer_Add.calls kj39 t721 t733 t735 t736 _ ?side1 A55.out).mono ?_); (case side1 => exact GOK.below hG.out bel); rintro e w76 ⟨rfl, hb⟩; refine ⟨_, rfl, ?_⟩; have n0_ := Aside0.mk (below_step bel hb); clear HB; have HB := n0_; clear n0_; (try clear hb); (try clear hb2); (try clear hk); (try clear hi)) | ((with_reducible refine gate_callee (f := 22) rfl ?_); refine goesL_ (some 193) rfl rfl Tryd.func22 (by kernel_rfl) rfl #[.string t711, .string a1] rfl ag ?_; (with_reducible refine (integer_Sub.calls kj39 t711 a1 t737 t738 _ ?side1 A56.out).mono ?_); (case side1 => exact GOK.below hG.out bel); rintro e w77 ⟨rfl, hb⟩; refine ⟨_, rfl, ?_⟩; have n0_ := Aside0.mk (below_step bel hb); clear HB; have HB := n0_; clear n0_; (try clear hb); (try clear hb2); (try clear hk); (try clear hi)))
          go_ret
          exact ⟨by first | rfl | (simp [errW_none, errW_some] <;> rfl) | (simp [*, errW_none, errW_some] <;> rfl), bel⟩
        ·rw [if_neg c58] at H
         have c58b0 : (t734 == 0) = false := beq_eq_false_iff_ne.mpr c58
         have c58b1 : (t734 != 0) = true := bne_iff_ne.mpr c58
         obtain rfl := Option.some.inj H
         go_wp2_with (first | ((with_reducible refine gate_callee (f := 26) rfl ?_); refine goesL_ (some 175) rfl rfl Tryd.func26 (by kernel_rfl) rfl #[.string a0, .string t715] rfl ag ?_; (with_reducible refine (integer_Mul.calls kj39 a0 t715 t731 t732 _ ?side1 A53.out).mono ?_); (case side1 => exact GOK.below hG.out bel); rintro e w78 ⟨rfl, hb⟩; refine ⟨_, rfl, ?_⟩; have n0_ := Aside0.mk (below_step bel hb); clear HB; have HB := n0_; clear n0_; (try clear hb); (try clear hb2); (try clear hk); (try clear hi)) | ((with_reducible refine gate_callee (f := 26) rfl ?_); refine goesL_ (some 181) rfl rfl Tryd.func26 (by kernel_rfl) rfl #[.string a0, .string a2] rfl ag ?_; (with_reducible refine (integer_Mul.calls kj39 a0 a2 t733 t734 _ ?side1 A54.out).mono ?_); (case side1 => exact GOK.below hG.out bel); rintro e w79 ⟨rfl, hb⟩; refine ⟨_, rfl, ?_⟩; have n0_ := Aside0.mk (below_step bel hb); clear HB; have HB := n0_; clear n0_; (try clear hb); (try clear hb2); (try clear hk); (try clear hi)) | ((with_reducible refine gate_callee (f := 21) rfl ?_); refine goesL_ (some 187) rfl rfl Tryd.func21 (by kernel_rfl) rfl #[.string t721, .string t733] rfl ag ?_; (with_reducible refine (integer_Add.calls kj39 t721 t733 t735 t736 _ ?side1 A55.out).mono ?_); (case side1 => exact GOK.below hG.out bel); rintro e w80 ⟨rfl, hb⟩; refine ⟨_, rfl, ?_⟩; have n0_ := Aside0.mk (below_step bel hb); clear HB; have HB := n0_; clear n0_; (try clear hb); (try clear hb2); (try clear hk); (try clear hi)) | ((with_reducible refine gate_callee (f := 22) rfl ?_); refine goesL_ (some 193) rfl rfl Tryd.func22 (by kernel_rfl) rfl #[.string t711, .string a1] rfl ag ?_; (with_reducible refine (integer_Sub.calls kj39 t711 a1 t737 t738 _ ?side1 A56.out).mono ?_); (case side1 => exact GOK.below hG.out bel); rintro e w81 ⟨rfl, hb⟩; refine ⟨_, rfl, ?_⟩; have n0_ := Aside0.mk (below_step bel hb); clear HB; have HB := n0_; clear n0_; (try clear hb); (try clear hb2); (try clear hk); (try clear hi)))
         go_ret
         exact ⟨by first | rfl | (simp [errW_none, errW_some] <;> rfl) | (simp [*, errW_none, errW_some] <;> rfl), bel⟩
       ·rw [if_neg c57] at H
        have c57b0 : (t732 == 0) = false := beq_eq_false_iff_ne.mpr c57
        have c57b1 : (t732 != 0) = true := bne_iff_ne.mpr c57
        obtain rfl := Option.some.inj H
        go_wp2_with (first | ((with_reducible refine gate_callee (f := 26) rfl ?_); refine goesL_ (some 175) rfl rfl Tryd.func26 (by kernel_rfl) rfl #[.string a0, .string t715] rfl ag ?_; (with_reducible refine (integer_Mul.calls kj39 a0 t715 t731 t732 _ ?side1 A53.out).mono ?_); (case side1 => exact GOK.below hG.out bel); rintro e w82 ⟨rfl, hb⟩; refine ⟨_, rfl, ?_⟩; have n0_ := Aside0.mk (below_step bel hb); clear HB; have HB := n0_; clear n0_; (try clear hb); (try clear hb2); (try clear hk); (try clear hi)) | ((with_reducible refine gate_callee (f := 26) rfl ?_); refine goesL_ (some 181) rfl rfl Tryd.func26 (by kernel_rfl) rfl #[.string a0, .string a2] rfl ag ?_; (with_reducible refine (integer_Mul.calls kj39 a0 a2 t733 t734 _ ?side1 A54.out).mono ?_); (case side1 => exact GOK.below hG.out bel); rintro e w83 ⟨rfl, hb⟩; refine ⟨_, rfl, ?_⟩; have n0_ := Aside0.mk (below_step bel hb); clear HB; have HB := n0_; clear n0_; (try clear hb); (try clear hb2); (try clear hk); (try clear hi)) | ((with_reducible refine gate_callee (f := 21) rfl ?_); refine goesL_ (some 187) rfl rfl Tryd.func21 (by kernel_rfl) rfl #[.string t721, .string t733] rfl ag ?_; (with_reducible refine (integer_Add.calls kj39 t721 t733 t735 t736 _ ?side1 A55.out).mono ?_); (case side1 => exact GOK.below hG.out bel); rintro e w84 ⟨rfl, hb⟩; refine ⟨_, rfl, ?_⟩; have n0_ := Aside0.mk (below_step bel hb); clear HB; have HB := n0_; clear n0_; (try clear hb); (try clear hb2); (try clear hk); (try clear hi)) | ((with_reducible refine gate_callee (f := 22) rfl ?_); refine goesL_ (some 193) rfl rfl Tryd.func22 (by kernel_rfl) rfl #[.string t711, .string a1] rfl ag ?_; (with_reducible refine (integer_Sub.calls kj39 t711 a1 t737 t738 _ ?side1 A56.out).mono ?_); (case side1 => exact GOK.below hG.out bel); rintro e w85 ⟨rfl, hb⟩; refine ⟨_, rfl, ?_⟩; have n0_ := Aside0.mk (below_step bel hb); clear HB; have HB := n0_; clear n0_; (try clear hb); (try clear hb2); (try clear hk); (try clear hi)))
        go_ret
        exact ⟨by first | rfl | (simp [errW_none, errW_some] <;> rfl) | (simp [*, errW_none, errW_some] <;> rfl), bel⟩
theorem cellarerlaw02_IntegerRings.calls (k : Nat) (a0 : ByteArray) (a1 : ByteArray) (a2 : ByteArray) (r : Bool) (w : World) (hG : GOK w) (h : cellarerlaw02_IntegerRings.f k a0 a1 a2 = some r) :
    Calls Tryd.prog 6 #[.string a0, .string a1, .string a2] w fun e w' => e = .returned (.bool r) ∧ Below w.heap.size w w' :=
  cellarerlaw02_IntegerRings.calls.cut.2 ⟨cellarerlaw02_IntegerRings.calls.rest⟩ k a0 a1 a2 r w hG h

theorem cellarerlaw02_IntegerRings.walk (P : cellarerlaw02_IntegerRings.Pure) (a0 : ByteArray) (a1 : ByteArray) (a2 : ByteArray) (w : World) (hG : GOK w) (w0 : a0.size ≤ 140737488351232) (w1 : a1.size ≤ 140737488351232) (w2 : a2.size ≤ 140737488351232) :
  Calls Tryd.prog 6 #[.string a0, .string a1, .string a2] w fun e w' => e = .returned (.bool true) ∧ Below w.heap.size w w' := by
 obtain ⟨k, h⟩ := P a0 a1 a2 w0 w1 w2
 refine (cellarerlaw02_IntegerRings.calls k a0 a1 a2 true w hG h).mono ?_
 rintro e w' ⟨rfl, hd⟩
 exact ⟨rfl, hd⟩

end Go.Proofs.YtdnjlmoggnbknaaDoor.PInt
