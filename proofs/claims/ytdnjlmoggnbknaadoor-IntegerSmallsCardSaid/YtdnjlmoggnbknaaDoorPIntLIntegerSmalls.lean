-- Written by a program of this session's (xprint.py) over the kit's print.
import Derived.Test.YtdnjlmoggnbknaaDoorPIntx0
import Derived.Test.YtdnjlmoggnbknaaDoorPIntx7
import Derived.Test.YtdnjlmoggnbknaaDoorPIntx8
import Derived.Test.YtdnjlmoggnbknaaDoorPIntx17
import Derived.Test.YtdnjlmoggnbknaaDoorPIntx19
import Derived.Test.YtdnjlmoggnbknaaDoorPIntD
import Derived.Test.YtdnjlmoggnbknaaDoorAuto
namespace Go.Proofs.YtdnjlmoggnbknaaDoor.PInt
open Go.RowKit Go.Proofs.YtdnjlmoggnbknaaDoor.Ext Go.Proofs.YtdnjlmoggnbknaaDoorW.PrintWords Go.Proofs.YtdnjlmoggnbknaaDoorW.PrintLast Go.Proofs.YtdnjlmoggnbknaaDoorW.PrintMore
attribute [local go_sem high] gtr_print leq_print
attribute [local go_sem] max2_int min2_int max_two min_two max_three min_three max_four min_four   -- for this text's walks alone
set_option linter.unusedVariables false
set_option linter.unusedSimpArgs false

/-! ### cellarerlaw02_IntegerSmalls: function 9 -/
set_option maxHeartbeats 8000000 in
set_option maxRecDepth 100000 in
theorem cellarerlaw02_IntegerSmalls.calls (k : Nat) (a0 : Int) (a1 : Int) (r : Bool) (w : World) (hG : GOK w) (h : cellarerlaw02_IntegerSmalls.f k a0 a1 = some r) :
  Calls Tryd.prog 9 #[.int .i64 a0, .int .i64 a1] w fun e w' => e = .returned (.bool r) ∧ Below w.heap.size w w' := by
 replace hG := Aside0.mk hG
 have HB := Aside0.mk (Below.refl w.heap.size w)
 have H : ((cellarerlaw02_awake.f k).bind fun t794 => (if t794 = true then ((integer_Of.f a0).bind fun t795 => ((integer_Of.f a1).bind fun t796 => ((integer_Small.f k t795).bind fun bt797 => (if bt797.2 = true then (cellarerlaw02_IntegerSmalls.j0 k a0 a1 t795 t796 (bt797.1 != a0)) else (cellarerlaw02_IntegerSmalls.j0 k a0 a1 t795 t796 true))))) else (some false))) = some r := h
 clear h
 replace H := Option.bind_eq_some_iff.mp H
 obtain ⟨t794, A30, H⟩ := H
 replace H : (if t794 = true then ((integer_Of.f a0).bind fun t795 => ((integer_Of.f a1).bind fun t796 => ((integer_Small.f k t795).bind fun bt797 => (if bt797.2 = true then (cellarerlaw02_IntegerSmalls.j0 k a0 a1 t795 t796 (bt797.1 != a0)) else (cellarerlaw02_IntegerSmalls.j0 k a0 a1 t795 t796 true))))) else (some false)) = some r := H
 have A3 := Aside0.mk A30
 clear A30
 by_cases c4 : t794 = true
 ·subst c4
  have H1 : ((integer_Of.f a0).bind fun t795 => ((integer_Of.f a1).bind fun t796 => ((integer_Small.f k t795).bind fun bt797 => (if bt797.2 = true then (cellarerlaw02_IntegerSmalls.j0 k a0 a1 t795 t796 (bt797.1 != a0)) else (cellarerlaw02_IntegerSmalls.j0 k a0 a1 t795 t796 true))))) = some r := by rw [if_pos rfl] at H; exact H
  clear H
  have H := H1
  clear H1
  replace H := Option.bind_eq_some_iff.mp H
  obtain ⟨t795, A50, H⟩ := H
  replace H : ((integer_Of.f a1).bind fun t796 => ((integer_Small.f k t795).bind fun bt797 => (if bt797.2 = true then (cellarerlaw02_IntegerSmalls.j0 k a0 a1 t795 t796 (bt797.1 != a0)) else (cellarerlaw02_IntegerSmalls.j0 k a0 a1 t795 t796 true)))) = some r := H
  have A5 := Aside0.mk A50
  clear A50
  replace H := Option.bind_eq_some_iff.mp H
  obtain ⟨t796, A60, H⟩ := H
  replace H : ((integer_Small.f k t795).bind fun bt797 => (if bt797.2 = true then (cellarerlaw02_IntegerSmalls.j0 k a0 a1 t795 t796 (bt797.1 != a0)) else (cellarerlaw02_IntegerSmalls.j0 k a0 a1 t795 t796 true))) = some r := H
  have A6 := Aside0.mk A60
  clear A60
  replace H := Option.bind_eq_some_iff.mp H
  obtain ⟨⟨t797, t798⟩, A70, H⟩ := H
  replace H : (if t798 = true then (cellarerlaw02_IntegerSmalls.j0 k a0 a1 t795 t796 (t797 != a0)) else (cellarerlaw02_IntegerSmalls.j0 k a0 a1 t795 t796 true)) = some r := H
  have A7 := Aside0.mk A70
  clear A70
  have HC8 := Aside0.mk H
  clear H
  go_enter Tryd.func9, Tryd.ntmps9
  go_upto_region 5 with (first | (go_at_call 11; (with_reducible refine (cellarerlaw02_awake.calls k  true _ ?side1 A3.out).mono ?_); (case side1 => exact GOK.below hG.out bel); rintro e w9 ⟨rfl, hb⟩; have n0_ := Aside0.mk (below_step bel hb); clear HB; have HB := n0_; clear n0_; (try clear hb); (try clear hb2); (try clear hk); (try clear hi)) | (go_at_call 29; (with_reducible refine (integer_Of.calls a0 t795 _ ?side1 A5.out).mono ?_); (case side1 => exact GOK.below hG.out bel); rintro e w10 ⟨rfl, hb⟩; have n0_ := Aside0.mk (below_step bel hb); clear HB; have HB := n0_; clear n0_; (try clear hb); (try clear hb2); (try clear hk); (try clear hi)) | (go_at_call 29; (with_reducible refine (integer_Of.calls a1 t796 _ ?side1 A6.out).mono ?_); (case side1 => exact GOK.below hG.out bel); rintro e w11 ⟨rfl, hb⟩; have n0_ := Aside0.mk (below_step bel hb); clear HB; have HB := n0_; clear n0_; (try clear hb); (try clear hb2); (try clear hk); (try clear hi)) | (go_at_call 30; (with_reducible refine (integer_Small.calls k t795 t797 t798 _ ?side1 A7.out).mono ?_); (case side1 => exact GOK.below hG.out bel); rintro e w12 ⟨rfl, hb⟩; have n0_ := Aside0.mk (below_step bel hb); clear HB; have HB := n0_; clear n0_; (try clear hb); (try clear hb2); (try clear hk); (try clear hi)))
  repeat (go_quiet (first | (go_at_call 11; (with_reducible refine (cellarerlaw02_awake.calls k  true _ ?side1 A3.out).mono ?_); (case side1 => exact GOK.below hG.out bel); rintro e w9 ⟨rfl, hb⟩; have n0_ := Aside0.mk (below_step bel hb); clear HB; have HB := n0_; clear n0_; (try clear hb); (try clear hb2); (try clear hk); (try clear hi)) | (go_at_call 29; (with_reducible refine (integer_Of.calls a0 t795 _ ?side1 A5.out).mono ?_); (case side1 => exact GOK.below hG.out bel); rintro e w10 ⟨rfl, hb⟩; have n0_ := Aside0.mk (below_step bel hb); clear HB; have HB := n0_; clear n0_; (try clear hb); (try clear hb2); (try clear hk); (try clear hi)) | (go_at_call 29; (with_reducible refine (integer_Of.calls a1 t796 _ ?side1 A6.out).mono ?_); (case side1 => exact GOK.below hG.out bel); rintro e w11 ⟨rfl, hb⟩; have n0_ := Aside0.mk (below_step bel hb); clear HB; have HB := n0_; clear n0_; (try clear hb); (try clear hb2); (try clear hk); (try clear hi)) | (go_at_call 30; (with_reducible refine (integer_Small.calls k t795 t797 t798 _ ?side1 A7.out).mono ?_); (case side1 => exact GOK.below hG.out bel); rintro e w12 ⟨rfl, hb⟩; have n0_ := Aside0.mk (below_step bel hb); clear HB; have HB := n0_; clear n0_; (try clear hb); (try clear hb2); (try clear hk); (try clear hi))); go_upto_region 5 with (first | (go_at_call 11; (with_reducible refine (cellarerlaw02_awake.calls k  true _ ?side1 A3.out).mono ?_); (case side1 => exact GOK.below hG.out bel); rintro e w9 ⟨rfl, hb⟩; have n0_ := Aside0.mk (below_step bel hb); clear HB; have HB := n0_; clear n0_; (try clear hb); (try clear hb2); (try clear hk); (try clear hi)) | (go_at_call 29; (with_reducible refine (integer_Of.calls a0 t795 _ ?side1 A5.out).mono ?_); (case side1 => exact GOK.below hG.out bel); rintro e w10 ⟨rfl, hb⟩; have n0_ := Aside0.mk (below_step bel hb); clear HB; have HB := n0_; clear n0_; (try clear hb); (try clear hb2); (try clear hk); (try clear hi)) | (go_at_call 29; (with_reducible refine (integer_Of.calls a1 t796 _ ?side1 A6.out).mono ?_); (case side1 => exact GOK.below hG.out bel); rintro e w11 ⟨rfl, hb⟩; have n0_ := Aside0.mk (below_step bel hb); clear HB; have HB := n0_; clear n0_; (try clear hb); (try clear hb2); (try clear hk); (try clear hi)) | (go_at_call 30; (with_reducible refine (integer_Small.calls k t795 t797 t798 _ ?side1 A7.out).mono ?_); (case side1 => exact GOK.below hG.out bel); rintro e w12 ⟨rfl, hb⟩; have n0_ := Aside0.mk (below_step bel hb); clear HB; have HB := n0_; clear n0_; (try clear hb); (try clear hb2); (try clear hk); (try clear hi))))
  (try simp only [Act.put, List.setIfInBounds_toArray, List.set_cons_zero, List.set_cons_succ])
  go_cut [37] (fun v37 wc => ∃ (kq : Nat) (x37_7 : Bool), v37 = .bool x37_7 ∧ Aside0 (cellarerlaw02_IntegerSmalls.j0 kq a0 a1 t795 t796 x37_7 = some r) ∧ Aside0 (kq ≤ k) ∧ Aside0 (Below w.heap.size w wc))
  case first =>
   have H := HC8.out
   clear HC8
   by_cases c13 : t798 = true
   ·subst c13
    have H1 : (cellarerlaw02_IntegerSmalls.j0 k a0 a1 t795 t796 (t797 != a0)) = some r := by rw [if_pos rfl] at H; exact H
    clear H
    have H := H1
    clear H1
    have H' := Aside0.mk H
    clear H
    go_wp2
    repeat (go_quiet (fail); try go_wp2)
    go_meet
    case rel => exact ⟨_, ((t797 != a0)), (by first | rfl | (simp; done) | (simp [*]; done)), H', ⟨by first | omega | exact Nat.le_refl _⟩, ⟨bel⟩⟩
   ·replace c13 := Bool.eq_false_iff.mpr c13
    subst c13
    have H1 : (cellarerlaw02_IntegerSmalls.j0 k a0 a1 t795 t796 true) = some r := by rw [if_neg (show ¬ (false = true) by decide)] at H; exact H
    clear H
    have H := H1
    clear H1
    have H' := Aside0.mk H
    clear H
    go_wp2
    repeat (go_quiet (fail); try go_wp2)
    go_meet
    case rel => exact ⟨_, (true), (by first | rfl | (simp; done) | (simp [*]; done)), H', ⟨by first | omega | exact Nat.le_refl _⟩, ⟨bel⟩⟩
  case rest =>
   clear HC8
   (try clear c1); (try clear p2); (try clear c4); (try clear c9); (try clear c13)
   obtain ⟨kq, x37_7, rfl, HA, HJ7, HB⟩ := hcut
   cases kq with
   | zero => exact absurd HA.out (by simp [cellarerlaw02_IntegerSmalls.j0])
   | succ kj7 =>
    have H := HA.out
    clear HA
    simp only [cellarerlaw02_IntegerSmalls.j0] at H
    by_cases c14 : x37_7 = true
    ·subst c14
     have H1 : (some false) = some r := by rw [if_pos rfl] at H; exact H
     clear H
     have H := H1
     clear H1
     obtain rfl := Option.some.inj H
     go_wp2
     repeat (go_quiet (fail); try go_wp2)
     go_ret
     exact ⟨by first | rfl | (simp [errW_none, errW_some] <;> rfl) | (simp [*, errW_none, errW_some] <;> rfl), bel⟩
    ·replace c14 := Bool.eq_false_iff.mpr c14
     subst c14
     have H1 : (if a0 < a1 then (cellarerlaw02_IntegerSmalls.j1 kj7 a0 a1 t795 t796 (-1)) else (cellarerlaw02_IntegerSmalls.j1 kj7 a0 a1 t795 t796 0)) = some r := by rw [if_neg (show ¬ (false = true) by decide)] at H; exact H
     clear H
     have H := H1
     clear H1
     have HC15 := Aside0.mk H
     clear H
     go_upto_if 40 with (fail)
     repeat (go_quiet (fail); go_upto_if 40 with (fail))
     go_cut [9] (fun v9 wc => ∃ (kq : Nat) (x9_14 : Int), v9 = .int .i64 x9_14 ∧ Aside0 (cellarerlaw02_IntegerSmalls.j1 kq a0 a1 t795 t796 x9_14 = some r) ∧ Aside0 (kq ≤ kj7) ∧ Aside0 (Below w.heap.size w wc))
     case first =>
      have H := HC15.out
      clear HC15
      by_cases c16 : a0 < a1
      ·rw [if_pos c16] at H
       have c16b0 : decide (a0 < a1) = true := decide_eq_true c16
       clear c16
       (first | rw [c16b0] | rw [c16b1] | (simp only [i64_w, i32_w]; rw [c16b0]) | skip)
       have H' := Aside0.mk H
       clear H
       go_wp2
       repeat (go_quiet (fail); try go_wp2)
       go_meet
       case rel => exact ⟨_, ((-1)), (by first | rfl | (simp; done) | (simp [*]; done)), H', ⟨by have := HJ7.out; first | omega | exact Nat.le_refl _⟩, ⟨bel⟩⟩
      ·rw [if_neg c16] at H
       have c16b0 : decide (a0 < a1) = false := decide_eq_false c16
       clear c16
       (first | rw [c16b0] | rw [c16b1] | (simp only [i64_w, i32_w]; rw [c16b0]) | skip)
       have H' := Aside0.mk H
       clear H
       go_wp2
       repeat (go_quiet (fail); try go_wp2)
       go_meet
       case rel => exact ⟨_, (0), (by first | rfl | (simp; done) | (simp [*]; done)), H', ⟨by have := HJ7.out; first | omega | exact Nat.le_refl _⟩, ⟨bel⟩⟩
     case rest =>
      clear HC15
      (try clear c1); (try clear p2); (try clear c4); (try clear c9); (try clear c13); (try clear c14); (try clear c16); (try clear c16b0); (try clear p2)
      obtain ⟨kq, x9_14, rfl, HA, HJ14, HB⟩ := hcut
      cases kq with
      | zero => exact absurd HA.out (by simp [cellarerlaw02_IntegerSmalls.j1])
      | succ kj14 =>
       have H := HA.out
       clear HA
       simp only [cellarerlaw02_IntegerSmalls.j1] at H
       have HC17 := Aside0.mk H
       clear H
       go_upto_if 43 with (fail)
       repeat (go_quiet (fail); go_upto_if 43 with (fail))
       go_cut [9] (fun v9 wc => ∃ (kq : Nat) (x9_16 : Int), v9 = .int .i64 x9_16 ∧ Aside0 (cellarerlaw02_IntegerSmalls.j2 kq a0 a1 t795 t796 x9_16 = some r) ∧ Aside0 (kq ≤ kj14) ∧ Aside0 (Below w.heap.size w wc))
       case first =>
        have H := HC17.out
        clear HC17
        by_cases c18 : a0 > a1
        ·rw [if_pos c18] at H
         have c18b0 : decide (a1 < a0) = true := decide_eq_true c18
         clear c18
         (first | rw [c18b0] | rw [c18b1] | (simp only [i64_w, i32_w]; rw [c18b0]) | skip)
         have H' := Aside0.mk H
         clear H
         go_wp2
         repeat (go_quiet (fail); try go_wp2)
         go_meet
         case rel => exact ⟨_, (1), (by first | rfl | (simp; done) | (simp [*]; done)), H', ⟨by have := HJ7.out; have := HJ14.out; first | omega | exact Nat.le_refl _⟩, ⟨bel⟩⟩
        ·rw [if_neg c18] at H
         have c18b0 : decide (a1 < a0) = false := decide_eq_false c18
         clear c18
         (first | rw [c18b0] | rw [c18b1] | (simp only [i64_w, i32_w]; rw [c18b0]) | skip)
         have H' := Aside0.mk H
         clear H
         go_wp2
         repeat (go_quiet (fail); try go_wp2)
         go_meet
         case rel => exact ⟨_, (x9_14), (by first | rfl | (simp; done) | (simp [*]; done)), H', ⟨by have := HJ7.out; have := HJ14.out; first | omega | exact Nat.le_refl _⟩, ⟨bel⟩⟩
       case rest =>
        clear HC17
        (try clear c1); (try clear p2); (try clear c4); (try clear c9); (try clear c13); (try clear c14); (try clear c16); (try clear c16b0); (try clear c18); (try clear c18b0); (try clear p2)
        obtain ⟨kq, x9_16, rfl, HA, HJ16, HB⟩ := hcut
        cases kq with
        | zero => exact absurd HA.out (by simp [cellarerlaw02_IntegerSmalls.j2])
        | succ kj16 =>
         have H := HA.out
         clear HA
         simp only [cellarerlaw02_IntegerSmalls.j2] at H
         replace H := Option.bind_eq_some_iff.mp H
         obtain ⟨t799, A190, H⟩ := H
         replace H : (if t799 = x9_16 then ((integer_Add.f kj16 t795 t796).bind fun bt800 => ((integer_Small.f kj16 bt800.1).bind fun bt802 => (if a0 > 0 then (if a1 > (wrap64 (9223372036854775807 - a0)) then (cellarerlaw02_IntegerSmalls.j3 kj16 a0 a1 t795 t796 bt800.2 bt802.1 bt802.2 true) else (if a0 < 0 then (cellarerlaw02_IntegerSmalls.j3 kj16 a0 a1 t795 t796 bt800.2 bt802.1 bt802.2 (decide (a1 < (wrap64 ((-9223372036854775808) - a0))))) else (cellarerlaw02_IntegerSmalls.j3 kj16 a0 a1 t795 t796 bt800.2 bt802.1 bt802.2 false))) else (if a0 < 0 then (cellarerlaw02_IntegerSmalls.j3 kj16 a0 a1 t795 t796 bt800.2 bt802.1 bt802.2 (decide (a1 < (wrap64 ((-9223372036854775808) - a0))))) else (cellarerlaw02_IntegerSmalls.j3 kj16 a0 a1 t795 t796 bt800.2 bt802.1 bt802.2 false))))) else (some false)) = some r := H
         have A19 := Aside0.mk A190
         clear A190
         by_cases c20 : t799 = x9_16
         ·rw [if_pos c20] at H
          have c20b0 : (t799 == x9_16) = true := beq_iff_eq.mpr c20
          have c20b1 : (t799 != x9_16) = false := bne_eq_false_iff_eq.mpr c20
          clear c20
          replace H := Option.bind_eq_some_iff.mp H
          obtain ⟨⟨t800, t801⟩, A210, H⟩ := H
          replace H : ((integer_Small.f kj16 t800).bind fun bt802 => (if a0 > 0 then (if a1 > (wrap64 (9223372036854775807 - a0)) then (cellarerlaw02_IntegerSmalls.j3 kj16 a0 a1 t795 t796 t801 bt802.1 bt802.2 true) else (if a0 < 0 then (cellarerlaw02_IntegerSmalls.j3 kj16 a0 a1 t795 t796 t801 bt802.1 bt802.2 (decide (a1 < (wrap64 ((-9223372036854775808) - a0))))) else (cellarerlaw02_IntegerSmalls.j3 kj16 a0 a1 t795 t796 t801 bt802.1 bt802.2 false))) else (if a0 < 0 then (cellarerlaw02_IntegerSmalls.j3 kj16 a0 a1 t795 t796 t801 bt802.1 bt802.2 (decide (a1 < (wrap64 ((-9223372036854775808) - a0))))) else (cellarerlaw02_IntegerSmalls.j3 kj16 a0 a1 t795 t796 t801 bt802.1 bt802.2 false)))) = some r := H
          have A21 := Aside0.mk A210
          clear A210
          replace H := Option.bind_eq_some_iff.mp H
          obtain ⟨⟨t802, t803⟩, A220, H⟩ := H
          replace H : (if a0 > 0 then (if a1 > (wrap64 (9223372036854775807 - a0)) then (cellarerlaw02_IntegerSmalls.j3 kj16 a0 a1 t795 t796 t801 t802 t803 true) else (if a0 < 0 then (cellarerlaw02_IntegerSmalls.j3 kj16 a0 a1 t795 t796 t801 t802 t803 (decide (a1 < (wrap64 ((-9223372036854775808) - a0))))) else (cellarerlaw02_IntegerSmalls.j3 kj16 a0 a1 t795 t796 t801 t802 t803 false))) else (if a0 < 0 then (cellarerlaw02_IntegerSmalls.j3 kj16 a0 a1 t795 t796 t801 t802 t803 (decide (a1 < (wrap64 ((-9223372036854775808) - a0))))) else (cellarerlaw02_IntegerSmalls.j3 kj16 a0 a1 t795 t796 t801 t802 t803 false))) = some r := H
          have A22 := Aside0.mk A220
          clear A220
          have HC23 := Aside0.mk H
          clear H
          go_upto_region 16 with (first | (go_at_call 28; (with_reducible refine (integer_Cmp.calls kj16 t795 t796 t799 _ ?side1 A19.out).mono ?_); (case side1 => exact GOK.below hG.out bel); rintro e w24 ⟨rfl, hb⟩; have n0_ := Aside0.mk (below_step bel hb); clear HB; have HB := n0_; clear n0_; (try clear hb); (try clear hb2); (try clear hk); (try clear hi)) | (go_at_call 21; (with_reducible refine (integer_Add.calls kj16 t795 t796 t800 t801 _ ?side1 A21.out).mono ?_); (case side1 => exact GOK.below hG.out bel); rintro e w25 ⟨rfl, hb⟩; have n0_ := Aside0.mk (below_step bel hb); clear HB; have HB := n0_; clear n0_; (try clear hb); (try clear hb2); (try clear hk); (try clear hi)) | (go_at_call 30; (with_reducible refine (integer_Small.calls kj16 t800 t802 t803 _ ?side1 A22.out).mono ?_); (case side1 => exact GOK.below hG.out bel); rintro e w26 ⟨rfl, hb⟩; have n0_ := Aside0.mk (below_step bel hb); clear HB; have HB := n0_; clear n0_; (try clear hb); (try clear hb2); (try clear hk); (try clear hi)))
          repeat (go_quiet (first | (go_at_call 28; (with_reducible refine (integer_Cmp.calls kj16 t795 t796 t799 _ ?side1 A19.out).mono ?_); (case side1 => exact GOK.below hG.out bel); rintro e w24 ⟨rfl, hb⟩; have n0_ := Aside0.mk (below_step bel hb); clear HB; have HB := n0_; clear n0_; (try clear hb); (try clear hb2); (try clear hk); (try clear hi)) | (go_at_call 21; (with_reducible refine (integer_Add.calls kj16 t795 t796 t800 t801 _ ?side1 A21.out).mono ?_); (case side1 => exact GOK.below hG.out bel); rintro e w25 ⟨rfl, hb⟩; have n0_ := Aside0.mk (below_step bel hb); clear HB; have HB := n0_; clear n0_; (try clear hb); (try clear hb2); (try clear hk); (try clear hi)) | (go_at_call 30; (with_reducible refine (integer_Small.calls kj16 t800 t802 t803 _ ?side1 A22.out).mono ?_); (case side1 => exact GOK.below hG.out bel); rintro e w26 ⟨rfl, hb⟩; have n0_ := Aside0.mk (below_step bel hb); clear HB; have HB := n0_; clear n0_; (try clear hb); (try clear hb2); (try clear hk); (try clear hi))); go_upto_region 16 with (first | (go_at_call 28; (with_reducible refine (integer_Cmp.calls kj16 t795 t796 t799 _ ?side1 A19.out).mono ?_); (case side1 => exact GOK.below hG.out bel); rintro e w24 ⟨rfl, hb⟩; have n0_ := Aside0.mk (below_step bel hb); clear HB; have HB := n0_; clear n0_; (try clear hb); (try clear hb2); (try clear hk); (try clear hi)) | (go_at_call 21; (with_reducible refine (integer_Add.calls kj16 t795 t796 t800 t801 _ ?side1 A21.out).mono ?_); (case side1 => exact GOK.below hG.out bel); rintro e w25 ⟨rfl, hb⟩; have n0_ := Aside0.mk (below_step bel hb); clear HB; have HB := n0_; clear n0_; (try clear hb); (try clear hb2); (try clear hk); (try clear hi)) | (go_at_call 30; (with_reducible refine (integer_Small.calls kj16 t800 t802 t803 _ ?side1 A22.out).mono ?_); (case side1 => exact GOK.below hG.out bel); rintro e w26 ⟨rfl, hb⟩; have n0_ := Aside0.mk (below_step bel hb); clear HB; have HB := n0_; clear n0_; (try clear hb); (try clear hb2); (try clear hk); (try clear hi))))
          (try simp only [Act.put, List.setIfInBounds_toArray, List.set_cons_zero, List.set_cons_succ])
          go_cut [14] (fun v14 wc => ∃ (kq : Nat) (x14_22 : Bool), v14 = .bool x14_22 ∧ Aside0 (cellarerlaw02_IntegerSmalls.j3 kq a0 a1 t795 t796 t801 t802 t803 x14_22 = some r) ∧ Aside0 (kq ≤ kj16) ∧ Aside0 (Below w.heap.size w wc))
          case first =>
           have H := HC23.out
           clear HC23
           by_cases c27 : a0 > 0
           ·rw [if_pos c27] at H
            have c27b0 : decide (0 < a0) = true := decide_eq_true c27
            clear c27
            (first | rw [c27b0] | rw [c27b1] | (simp only [i64_w, i32_w]; rw [c27b0]) | skip)
            by_cases c28 : a1 > (wrap64 (9223372036854775807 - a0))
            ·rw [if_pos c28] at H
             have c28b0 : decide ((wrap64 (9223372036854775807 - a0)) < a1) = true := decide_eq_true c28
             clear c28
             have H' := Aside0.mk H
             clear H
             go_wp2
             repeat (go_quiet (fail); try go_wp2)
             go_meet
             case rel => exact ⟨_, (true), (by first | rfl | (simp; done) | (simp [*]; done)), H', ⟨by have := HJ7.out; have := HJ14.out; have := HJ16.out; first | omega | exact Nat.le_refl _⟩, ⟨bel⟩⟩
            ·rw [if_neg c28] at H
             have c28b0 : decide ((wrap64 (9223372036854775807 - a0)) < a1) = false := decide_eq_false c28
             clear c28
             by_cases c29 : a0 < 0
             ·rw [if_pos c29] at H
              have c29b0 : decide (a0 < 0) = true := decide_eq_true c29
              clear c29
              have H' := Aside0.mk H
              clear H
              go_wp2
              repeat (go_quiet (fail); try go_wp2)
              go_meet
              case rel => exact ⟨_, (decide (a1 < (wrap64 ((-9223372036854775808) - a0)))), (by first | rfl | (simp; done) | (simp [*]; done)), H', ⟨by have := HJ7.out; have := HJ14.out; have := HJ16.out; first | omega | exact Nat.le_refl _⟩, ⟨bel⟩⟩
             ·rw [if_neg c29] at H
              have c29b0 : decide (a0 < 0) = false := decide_eq_false c29
              clear c29
              have H' := Aside0.mk H
              clear H
              go_wp2
              repeat (go_quiet (fail); try go_wp2)
              go_meet
              case rel => exact ⟨_, (false), (by first | rfl | (simp; done) | (simp [*]; done)), H', ⟨by have := HJ7.out; have := HJ14.out; have := HJ16.out; first | omega | exact Nat.le_refl _⟩, ⟨bel⟩⟩
           ·rw [if_neg c27] at H
            have c27b0 : decide (0 < a0) = false := decide_eq_false c27
            clear c27
            (first | rw [c27b0] | rw [c27b1] | (simp only [i64_w, i32_w]; rw [c27b0]) | skip)
            by_cases c30 : a0 < 0
            ·rw [if_pos c30] at H
             have c30b0 : decide (a0 < 0) = true := decide_eq_true c30
             clear c30
             have H' := Aside0.mk H
             clear H
             go_wp2
             repeat (go_quiet (fail); try go_wp2)
             go_meet
             case rel => exact ⟨_, (decide (a1 < (wrap64 ((-9223372036854775808) - a0)))), (by first | rfl | (simp; done) | (simp [*]; done)), H', ⟨by have := HJ7.out; have := HJ14.out; have := HJ16.out; first | omega | exact Nat.le_refl _⟩, ⟨bel⟩⟩
            ·rw [if_neg c30] at H
             have c30b0 : decide (a0 < 0) = false := decide_eq_false c30
             clear c30
             have H' := Aside0.mk H
             clear H
             go_wp2
             repeat (go_quiet (fail); try go_wp2)
             go_meet
             case rel => exact ⟨_, (false), (by first | rfl | (simp; done) | (simp [*]; done)), H', ⟨by have := HJ7.out; have := HJ14.out; have := HJ16.out; first | omega | exact Nat.le_refl _⟩, ⟨bel⟩⟩
          case rest =>
           clear HC23
           (try clear c1); (try clear c2); (try clear p2); (try clear c3); (try clear c4); (try clear p6); (try clear c9); (try clear c13); (try clear c14); (try clear c16); (try clear c16b0); (try clear c18); (try clear c18b0); (try clear c20); (try clear c20b0); (try clear c20b1); (try clear c27); (try clear c27b0); (try clear c28); (try clear c28b0); (try clear c29); (try clear c29b0); (try clear c30); (try clear c30b0); (try clear p2)
           obtain ⟨kq, x14_22, rfl, HA, HJ22, HB⟩ := hcut
           cases kq with
           | zero => exact absurd HA.out (by simp [cellarerlaw02_IntegerSmalls.j3])
           | succ kj22 =>
            have H := HA.out
            clear HA
            simp only [cellarerlaw02_IntegerSmalls.j3] at H
            have HC31 := Aside0.mk H
            clear H
            go_upto_region 17 with (fail)
            repeat (go_quiet (fail); go_upto_region 17 with (fail))
            go_cut [94] (fun v94 wc => ∃ (kq : Nat) (x94_30 : Bool), v94 = .bool x94_30 ∧ Aside0 (cellarerlaw02_IntegerSmalls.j4 kq a0 a1 t795 t796 x94_30 = some r) ∧ Aside0 (kq ≤ kj22) ∧ Aside0 (Below w.heap.size w wc))
            case first =>
             have H := HC31.out
             clear HC31
             by_cases c32 : t801 = 0
             ·rw [if_pos c32] at H
              have c32b0 : (t801 == 0) = true := beq_iff_eq.mpr c32
              have c32b1 : (t801 != 0) = false := bne_eq_false_iff_eq.mpr c32
              clear c32
              (first | rw [c32b0] | rw [c32b1] | (simp only [i64_w, i32_w]; rw [c32b0]) | skip)
              by_cases c33 : (t803 == x14_22) = true
              ·rw [if_pos c33] at H
               have c33b0 : (t803 == x14_22) = true := c33
               (try (have c33b1 : decide (t803 = x14_22) = true := by simpa using c33))
               (try (have c33b2 : (t803 == x14_22) = true := by simpa using c33))
               clear c33
               have H' := Aside0.mk H
               clear H
               go_wp2
               repeat (go_quiet (fail); try go_wp2)
               go_meet
               case rel => exact ⟨_, (true), (by first | rfl | (simp; done) | (simp [*]; done)), H', ⟨by have := HJ7.out; have := HJ14.out; have := HJ16.out; have := HJ22.out; first | omega | exact Nat.le_refl _⟩, ⟨bel⟩⟩
              ·rw [if_neg c33] at H
               have c33b0 : (t803 == x14_22) = false := by simpa using c33
               (try (have c33b1 : decide (t803 = x14_22) = false := by simpa using c33))
               (try (have c33b2 : (t803 == x14_22) = false := by simpa using c33))
               (try (have c33b3 : ¬ (t803 = x14_22) := by simpa using c33))
               clear c33
               by_cases c34 : t803 = true
               ·subst c34
                have H1 : (cellarerlaw02_IntegerSmalls.j4 kj22 a0 a1 t795 t796 (t802 != (wrap64 (a0 + a1)))) = some r := by rw [if_pos rfl] at H; exact H
                clear H
                have H := H1
                clear H1
                have H' := Aside0.mk H
                clear H
                go_wp2
                repeat (go_quiet (fail); try go_wp2)
                go_meet
                case rel => exact ⟨_, ((t802 != (wrap64 (a0 + a1)))), (by first | rfl | (simp; done) | (simp [*]; done)), H', ⟨by have := HJ7.out; have := HJ14.out; have := HJ16.out; have := HJ22.out; first | omega | exact Nat.le_refl _⟩, ⟨bel⟩⟩
               ·replace c34 := Bool.eq_false_iff.mpr c34
                subst c34
                have H1 : (cellarerlaw02_IntegerSmalls.j4 kj22 a0 a1 t795 t796 false) = some r := by rw [if_neg (show ¬ (false = true) by decide)] at H; exact H
                clear H
                have H := H1
                clear H1
                have H' := Aside0.mk H
                clear H
                go_wp2
                repeat (go_quiet (fail); try go_wp2)
                go_meet
                case rel => exact ⟨_, (false), (by first | rfl | (simp; done) | (simp [*]; done)), H', ⟨by have := HJ7.out; have := HJ14.out; have := HJ16.out; have := HJ22.out; first | omega | exact Nat.le_refl _⟩, ⟨bel⟩⟩
             ·rw [if_neg c32] at H
              have c32b0 : (t801 == 0) = false := beq_eq_false_iff_ne.mpr c32
              have c32b1 : (t801 != 0) = true := bne_iff_ne.mpr c32
              (first | rw [c32b0] | rw [c32b1] | (simp only [i64_w, i32_w]; rw [c32b0]) | skip)
              have H' := Aside0.mk H
              clear H
              go_wp2
              repeat (go_quiet (fail); try go_wp2)
              go_meet
              case rel => exact ⟨_, (true), (by first | rfl | (simp; done) | (simp [*]; done)), H', ⟨by have := HJ7.out; have := HJ14.out; have := HJ16.out; have := HJ22.out; first | omega | exact Nat.le_refl _⟩, ⟨bel⟩⟩
            case rest =>
             clear HC31
             (try clear c1); (try clear c2); (try clear p2); (try clear c3); (try clear c4); (try clear p6); (try clear c9); (try clear c13); (try clear c14); (try clear c16); (try clear c16b0); (try clear c18); (try clear c18b0); (try clear c20); (try clear c20b0); (try clear c20b1); (try clear c27); (try clear c27b0); (try clear c28); (try clear c28b0); (try clear c29); (try clear c29b0); (try clear c30); (try clear c30b0); (try clear c32); (try clear c32b0); (try clear c32b1); (try clear c33); (try clear c33b0); (try clear c33b1); (try clear c33b2); (try clear c34); (try clear p2); (try clear p6)
             obtain ⟨kq, x94_30, rfl, HA, HJ30, HB⟩ := hcut
             cases kq with
             | zero => exact absurd HA.out (by simp [cellarerlaw02_IntegerSmalls.j4])
             | succ kj30 =>
              have H := HA.out
              clear HA
              simp only [cellarerlaw02_IntegerSmalls.j4] at H
              by_cases c35 : x94_30 = true
              ·subst c35
               have H1 : (some false) = some r := by rw [if_pos rfl] at H; exact H
               clear H
               have H := H1
               clear H1
               obtain rfl := Option.some.inj H
               go_wp2
               repeat (go_quiet (fail); try go_wp2)
               go_ret
               exact ⟨by first | rfl | (simp [errW_none, errW_some] <;> rfl) | (simp [*, errW_none, errW_some] <;> rfl), bel⟩
              ·replace c35 := Bool.eq_false_iff.mpr c35
               subst c35
               have H1 : (if a1 = 0 then (cellarerlaw02_IntegerSmalls.j5 kj30 a0 a1 t795 t796 true) else (if a0 = (-9223372036854775808) then (cellarerlaw02_IntegerSmalls.j5 kj30 a0 a1 t795 t796 (a1 == (-1))) else (cellarerlaw02_IntegerSmalls.j5 kj30 a0 a1 t795 t796 false))) = some r := by rw [if_neg (show ¬ (false = true) by decide)] at H; exact H
               clear H
               have H := H1
               clear H1
               have HC36 := Aside0.mk H
               clear H
               go_upto_region 19 with (fail)
               repeat (go_quiet (fail); go_upto_region 19 with (fail))
               go_cut [104] (fun v104 wc => ∃ (kq : Nat) (x104_35 : Bool), v104 = .bool x104_35 ∧ Aside0 (cellarerlaw02_IntegerSmalls.j5 kq a0 a1 t795 t796 x104_35 = some r) ∧ Aside0 (kq ≤ kj30) ∧ Aside0 (Below w.heap.size w wc))
               case first =>
                have H := HC36.out
                clear HC36
                by_cases c37 : a1 = 0
                ·rw [if_pos c37] at H
                 have c37b0 : (a1 == 0) = true := beq_iff_eq.mpr c37
                 have c37b1 : (a1 != 0) = false := bne_eq_false_iff_eq.mpr c37
                 clear c37
                 (first | rw [c37b0] | rw [c37b1] | (simp only [i64_w, i32_w]; rw [c37b0]) | skip)
                 have H' := Aside0.mk H
                 clear H
                 go_wp2
                 repeat (go_quiet (fail); try go_wp2)
                 go_meet
                 case rel => exact ⟨_, (true), (by first | rfl | (simp; done) | (simp [*]; done)), H', ⟨by have := HJ7.out; have := HJ14.out; have := HJ16.out; have := HJ22.out; have := HJ30.out; first | omega | exact Nat.le_refl _⟩, ⟨bel⟩⟩
                ·rw [if_neg c37] at H
                 have c37b0 : (a1 == 0) = false := beq_eq_false_iff_ne.mpr c37
                 have c37b1 : (a1 != 0) = true := bne_iff_ne.mpr c37
                 (first | rw [c37b0] | rw [c37b1] | (simp only [i64_w, i32_w]; rw [c37b0]) | skip)
                 by_cases c38 : a0 = (-9223372036854775808)
                 ·rw [if_pos c38] at H
                  have c38b0 : (a0 == (-9223372036854775808)) = true := beq_iff_eq.mpr c38
                  have c38b1 : (a0 != (-9223372036854775808)) = false := bne_eq_false_iff_eq.mpr c38
                  clear c38
                  have H' := Aside0.mk H
                  clear H
                  go_wp2
                  repeat (go_quiet (fail); try go_wp2)
                  go_meet
                  case rel => exact ⟨_, ((a1 == (-1))), (by first | rfl | (simp; done) | (simp [*]; done)), H', ⟨by have := HJ7.out; have := HJ14.out; have := HJ16.out; have := HJ22.out; have := HJ30.out; first | omega | exact Nat.le_refl _⟩, ⟨bel⟩⟩
                 ·rw [if_neg c38] at H
                  have c38b0 : (a0 == (-9223372036854775808)) = false := beq_eq_false_iff_ne.mpr c38
                  have c38b1 : (a0 != (-9223372036854775808)) = true := bne_iff_ne.mpr c38
                  have H' := Aside0.mk H
                  clear H
                  go_wp2
                  repeat (go_quiet (fail); try go_wp2)
                  go_meet
                  case rel => exact ⟨_, (false), (by first | rfl | (simp; done) | (simp [*]; done)), H', ⟨by have := HJ7.out; have := HJ14.out; have := HJ16.out; have := HJ22.out; have := HJ30.out; first | omega | exact Nat.le_refl _⟩, ⟨bel⟩⟩
               case rest =>
                clear HC36
                (try clear c1); (try clear c2); (try clear p2); (try clear c3); (try clear c4); (try clear p6); (try clear c9); (try clear c13); (try clear c14); (try clear c16); (try clear c16b0); (try clear c18); (try clear c18b0); (try clear c20); (try clear c20b0); (try clear c20b1); (try clear c27); (try clear c27b0); (try clear c28); (try clear c28b0); (try clear c29); (try clear c29b0); (try clear c30); (try clear c30b0); (try clear c32); (try clear c32b0); (try clear c32b1); (try clear c33); (try clear c33b0); (try clear c33b1); (try clear c33b2); (try clear c34); (try clear c35); (try clear c37); (try clear c37b0); (try clear c37b1); (try clear c38); (try clear c38b0); (try clear c38b1); (try clear p2); (try clear p6)
                obtain ⟨kq, x104_35, rfl, HA, HJ35, HB⟩ := hcut
                cases kq with
                | zero => exact absurd HA.out (by simp [cellarerlaw02_IntegerSmalls.j5])
                | succ kj35 =>
                 have H := HA.out
                 clear HA
                 simp only [cellarerlaw02_IntegerSmalls.j5] at H
                 by_cases c39 : x104_35 = true
                 ·subst c39
                  have H1 : (some true) = some r := by rw [if_pos rfl] at H; exact H
                  clear H
                  have H := H1
                  clear H1
                  obtain rfl := Option.some.inj H
                  go_wp2
                  repeat (go_quiet (fail); try go_wp2)
                  go_ret
                  exact ⟨by first | rfl | (simp [errW_none, errW_some] <;> rfl) | (simp [*, errW_none, errW_some] <;> rfl), bel⟩
                 ·replace c39 := Bool.eq_false_iff.mpr c39
                  subst c39
                  have H1 : ((integer_DivMod.f kj35 t795 t796).bind fun bt804 => (if a1 = 0 then (none) else (if (Int.tmod a0 a1) = 0 then (cellarerlaw02_IntegerSmalls.j6 kj35 a1 bt804.1 bt804.2.1 bt804.2.2 (wrap64 (Int.tdiv a0 a1)) (Int.tmod a0 a1) false) else (cellarerlaw02_IntegerSmalls.j6 kj35 a1 bt804.1 bt804.2.1 bt804.2.2 (wrap64 (Int.tdiv a0 a1)) (Int.tmod a0 a1) ((decide ((Int.tmod a0 a1) < 0)) != (decide (a1 < 0))))))) = some r := by rw [if_neg (show ¬ (false = true) by decide)] at H; exact H
                  clear H
                  have H := H1
                  clear H1
                  replace H := Option.bind_eq_some_iff.mp H
                  obtain ⟨⟨t804, t805, t806⟩, A400, H⟩ := H
                  replace H : (if a1 = 0 then (none) else (if (Int.tmod a0 a1) = 0 then (cellarerlaw02_IntegerSmalls.j6 kj35 a1 t804 t805 t806 (wrap64 (Int.tdiv a0 a1)) (Int.tmod a0 a1) false) else (cellarerlaw02_IntegerSmalls.j6 kj35 a1 t804 t805 t806 (wrap64 (Int.tdiv a0 a1)) (Int.tmod a0 a1) ((decide ((Int.tmod a0 a1) < 0)) != (decide (a1 < 0)))))) = some r := H
                  have A40 := Aside0.mk A400
                  clear A400
                  by_cases c41 : a1 = 0
                  ·rw [if_pos c41] at H
                   exact absurd H (by simp)
                  ·rw [if_neg c41] at H
                   have c41b0 : (a1 == 0) = false := beq_eq_false_iff_ne.mpr c41
                   have c41b1 : (a1 != 0) = true := bne_iff_ne.mpr c41
                   have HC42 := Aside0.mk H
                   clear H
                   go_upto_region 23 with (first | (go_at_call 13; (with_reducible refine (integer_DivMod.calls kj35 t795 t796 t804 t805 t806 _ ?side1 A40.out).mono ?_); (case side1 => exact GOK.below hG.out bel); rintro e w43 ⟨rfl, hb⟩; have n0_ := Aside0.mk (below_step bel hb); clear HB; have HB := n0_; clear n0_; (try clear hb); (try clear hb2); (try clear hk); (try clear hi)))
                   repeat (go_quiet (first | (go_at_call 13; (with_reducible refine (integer_DivMod.calls kj35 t795 t796 t804 t805 t806 _ ?side1 A40.out).mono ?_); (case side1 => exact GOK.below hG.out bel); rintro e w43 ⟨rfl, hb⟩; have n0_ := Aside0.mk (below_step bel hb); clear HB; have HB := n0_; clear n0_; (try clear hb); (try clear hb2); (try clear hk); (try clear hi))); go_upto_region 23 with (first | (go_at_call 13; (with_reducible refine (integer_DivMod.calls kj35 t795 t796 t804 t805 t806 _ ?side1 A40.out).mono ?_); (case side1 => exact GOK.below hG.out bel); rintro e w43 ⟨rfl, hb⟩; have n0_ := Aside0.mk (below_step bel hb); clear HB; have HB := n0_; clear n0_; (try clear hb); (try clear hb2); (try clear hk); (try clear hi))))
                   (try simp only [Act.put, List.setIfInBounds_toArray, List.set_cons_zero, List.set_cons_succ])
                   go_cut [126] (fun v126 wc => ∃ (kq : Nat) (x126_41 : Bool), v126 = .bool x126_41 ∧ Aside0 (cellarerlaw02_IntegerSmalls.j6 kq a1 t804 t805 t806 (wrap64 (Int.tdiv a0 a1)) (Int.tmod a0 a1) x126_41 = some r) ∧ Aside0 (kq ≤ kj35) ∧ Aside0 (Below w.heap.size w wc))
                   case first =>
                    have H := HC42.out
                    clear HC42
                    by_cases c44 : (Int.tmod a0 a1) = 0
                    ·rw [if_pos c44] at H
                     have c44b0 : ((Int.tmod a0 a1) == 0) = true := beq_iff_eq.mpr c44
                     have c44b1 : ((Int.tmod a0 a1) != 0) = false := bne_eq_false_iff_eq.mpr c44
                     clear c44
                     (first | rw [c44b0] | rw [c44b1] | (simp only [i64_w, i32_w]; rw [c44b0]) | skip)
                     have H' := Aside0.mk H
                     clear H
                     go_wp2
                     repeat (go_quiet (fail); try go_wp2)
                     go_meet
                     case rel => exact ⟨_, (false), (by first | rfl | (simp; done) | (simp [*]; done)), H', ⟨by have := HJ7.out; have := HJ14.out; have := HJ16.out; have := HJ22.out; have := HJ30.out; have := HJ35.out; first | omega | exact Nat.le_refl _⟩, ⟨bel⟩⟩
                    ·rw [if_neg c44] at H
                     have c44b0 : ((Int.tmod a0 a1) == 0) = false := beq_eq_false_iff_ne.mpr c44
                     have c44b1 : ((Int.tmod a0 a1) != 0) = true := bne_iff_ne.mpr c44
                     (first | rw [c44b0] | rw [c44b1] | (simp only [i64_w, i32_w]; rw [c44b0]) | skip)
                     have H' := Aside0.mk H
                     clear H
                     go_wp2
                     repeat (go_quiet (fail); try go_wp2)
                     go_meet
                     case rel => exact ⟨_, (((decide ((Int.tmod a0 a1) < 0)) != (decide (a1 < 0)))), (by first | rfl | (simp; done) | (simp [*]; done)), H', ⟨by have := HJ7.out; have := HJ14.out; have := HJ16.out; have := HJ22.out; have := HJ30.out; have := HJ35.out; first | omega | exact Nat.le_refl _⟩, ⟨bel⟩⟩
                   case rest =>
                    clear HC42
                    (try clear c1); (try clear c2); (try clear p2); (try clear c3); (try clear c4); (try clear p6); (try clear c9); (try clear c13); (try clear c14); (try clear c16); (try clear c16b0); (try clear c18); (try clear c18b0); (try clear c20); (try clear c20b0); (try clear c20b1); (try clear c27); (try clear c27b0); (try clear c28); (try clear c28b0); (try clear c29); (try clear c29b0); (try clear c30); (try clear c30b0); (try clear c32); (try clear c32b0); (try clear c32b1); (try clear c33); (try clear c33b0); (try clear c33b1); (try clear c33b2); (try clear c34); (try clear c35); (try clear c37); (try clear c37b0); (try clear c37b1); (try clear c38); (try clear c38b0); (try clear c38b1); (try clear c39); (try clear c41); (try clear c41b0); (try clear c41b1); (try clear c44); (try clear c44b0); (try clear c44b1); (try clear p2); (try clear p6)
                    obtain ⟨kq, x126_41, rfl, HA, HJ41, HB⟩ := hcut
                    cases kq with
                    | zero => exact absurd HA.out (by simp [cellarerlaw02_IntegerSmalls.j6])
                    | succ kj41 =>
                     have H := HA.out
                     clear HA
                     simp only [cellarerlaw02_IntegerSmalls.j6] at H
                     by_cases c45 : x126_41 = true
                     ·subst c45
                      have H1 : (if t806 = 0 then ((integer_Of.f (wrap64 ((wrap64 (Int.tdiv a0 a1)) - 1))).bind fun t807 => (if t804.toList = t807.toList then ((integer_Of.f (wrap64 ((Int.tmod a0 a1) + a1))).bind fun t808 => (some (t805.toList == t808.toList))) else (some false))) else (some false)) = some r := by rw [if_pos rfl] at H; exact H
                      clear H
                      have H := H1
                      clear H1
                      by_cases c46 : t806 = 0
                      ·rw [if_pos c46] at H
                       have c46b0 : (t806 == 0) = true := beq_iff_eq.mpr c46
                       have c46b1 : (t806 != 0) = false := bne_eq_false_iff_eq.mpr c46
                       clear c46
                       replace H := Option.bind_eq_some_iff.mp H
                       obtain ⟨t807, A470, H⟩ := H
                       replace H : (if t804.toList = t807.toList then ((integer_Of.f (wrap64 ((Int.tmod a0 a1) + a1))).bind fun t808 => (some (t805.toList == t808.toList))) else (some false)) = some r := H
                       have A47 := Aside0.mk A470
                       clear A470
                       by_cases c48 : t804.toList = t807.toList
                       ·rw [if_pos c48] at H
                        have c48b0 : (t804.toList == t807.toList) = true := beq_iff_eq.mpr c48
                        have c48b1 : (t804.toList != t807.toList) = false := bne_eq_false_iff_eq.mpr c48
                        clear c48
                        replace H := Option.bind_eq_some_iff.mp H
                        obtain ⟨t808, A490, H⟩ := H
                        replace H : (some (t805.toList == t808.toList)) = some r := H
                        have A49 := Aside0.mk A490
                        clear A490
                        obtain rfl := Option.some.inj H
                        go_wp2_with (first | (go_at_call 29; (with_reducible refine (integer_Of.calls (wrap64 ((wrap64 (Int.tdiv a0 a1)) - 1)) t807 _ ?side1 A47.out).mono ?_); (case side1 => exact GOK.below hG.out bel); rintro e w50 ⟨rfl, hb⟩; have n0_ := Aside0.mk (below_step bel hb); clear HB; have HB := n0_; clear n0_; (try clear hb); (try clear hb2); (try clear hk); (try clear hi)) | (go_at_call 29; (with_reducible refine (integer_Of.calls (wrap64 ((Int.tmod a0 a1) + a1)) t808 _ ?side1 A49.out).mono ?_); (case side1 => exact GOK.below hG.out bel); rintro e w51 ⟨rfl, hb⟩; have n0_ := Aside0.mk (below_step bel hb); clear HB; have HB := n0_; clear n0_; (try clear hb); (try clear hb2); (try clear hk); (try clear hi)))
                        repeat (go_quiet (first | (go_at_call 29; (with_reducible refine (integer_Of.calls (wrap64 ((wrap64 (Int.tdiv a0 a1)) - 1)) t807 _ ?side1 A47.out).mono ?_); (case side1 => exact GOK.below hG.out bel); rintro e w50 ⟨rfl, hb⟩; have n0_ := Aside0.mk (below_step bel hb); clear HB; have HB := n0_; clear n0_; (try clear hb); (try clear hb2); (try clear hk); (try clear hi)) | (go_at_call 29; (with_reducible refine (integer_Of.calls (wrap64 ((Int.tmod a0 a1) + a1)) t808 _ ?side1 A49.out).mono ?_); (case side1 => exact GOK.below hG.out bel); rintro e w51 ⟨rfl, hb⟩; have n0_ := Aside0.mk (below_step bel hb); clear HB; have HB := n0_; clear n0_; (try clear hb); (try clear hb2); (try clear hk); (try clear hi))); try go_wp2_with (first | (go_at_call 29; (with_reducible refine (integer_Of.calls (wrap64 ((wrap64 (Int.tdiv a0 a1)) - 1)) t807 _ ?side1 A47.out).mono ?_); (case side1 => exact GOK.below hG.out bel); rintro e w50 ⟨rfl, hb⟩; have n0_ := Aside0.mk (below_step bel hb); clear HB; have HB := n0_; clear n0_; (try clear hb); (try clear hb2); (try clear hk); (try clear hi)) | (go_at_call 29; (with_reducible refine (integer_Of.calls (wrap64 ((Int.tmod a0 a1) + a1)) t808 _ ?side1 A49.out).mono ?_); (case side1 => exact GOK.below hG.out bel); rintro e w51 ⟨rfl, hb⟩; have n0_ := Aside0.mk (below_step bel hb); clear HB; have HB := n0_; clear n0_; (try clear hb); (try clear hb2); (try clear hk); (try clear hi))))
                        go_ret
                        exact ⟨by first | rfl | (simp [errW_none, errW_some] <;> rfl) | (simp [*, errW_none, errW_some] <;> rfl), bel⟩
                       ·rw [if_neg c48] at H
                        have c48b0 : (t804.toList == t807.toList) = false := beq_eq_false_iff_ne.mpr c48
                        have c48b1 : (t804.toList != t807.toList) = true := bne_iff_ne.mpr c48
                        obtain rfl := Option.some.inj H
                        go_wp2_with (first | (go_at_call 29; (with_reducible refine (integer_Of.calls (wrap64 ((wrap64 (Int.tdiv a0 a1)) - 1)) t807 _ ?side1 A47.out).mono ?_); (case side1 => exact GOK.below hG.out bel); rintro e w52 ⟨rfl, hb⟩; have n0_ := Aside0.mk (below_step bel hb); clear HB; have HB := n0_; clear n0_; (try clear hb); (try clear hb2); (try clear hk); (try clear hi)))
                        repeat (go_quiet (first | (go_at_call 29; (with_reducible refine (integer_Of.calls (wrap64 ((wrap64 (Int.tdiv a0 a1)) - 1)) t807 _ ?side1 A47.out).mono ?_); (case side1 => exact GOK.below hG.out bel); rintro e w52 ⟨rfl, hb⟩; have n0_ := Aside0.mk (below_step bel hb); clear HB; have HB := n0_; clear n0_; (try clear hb); (try clear hb2); (try clear hk); (try clear hi))); try go_wp2_with (first | (go_at_call 29; (with_reducible refine (integer_Of.calls (wrap64 ((wrap64 (Int.tdiv a0 a1)) - 1)) t807 _ ?side1 A47.out).mono ?_); (case side1 => exact GOK.below hG.out bel); rintro e w52 ⟨rfl, hb⟩; have n0_ := Aside0.mk (below_step bel hb); clear HB; have HB := n0_; clear n0_; (try clear hb); (try clear hb2); (try clear hk); (try clear hi))))
                        go_ret
                        exact ⟨by first | rfl | (simp [errW_none, errW_some] <;> rfl) | (simp [*, errW_none, errW_some] <;> rfl), bel⟩
                      ·rw [if_neg c46] at H
                       have c46b0 : (t806 == 0) = false := beq_eq_false_iff_ne.mpr c46
                       have c46b1 : (t806 != 0) = true := bne_iff_ne.mpr c46
                       obtain rfl := Option.some.inj H
                       go_wp2
                       repeat (go_quiet (fail); try go_wp2)
                       go_ret
                       exact ⟨by first | rfl | (simp [errW_none, errW_some] <;> rfl) | (simp [*, errW_none, errW_some] <;> rfl), bel⟩
                     ·replace c45 := Bool.eq_false_iff.mpr c45
                      subst c45
                      have H1 : (if t806 = 0 then ((integer_Of.f (wrap64 (Int.tdiv a0 a1))).bind fun t809 => (if t804.toList = t809.toList then ((integer_Of.f (Int.tmod a0 a1)).bind fun t810 => (some (t805.toList == t810.toList))) else (some false))) else (some false)) = some r := by rw [if_neg (show ¬ (false = true) by decide)] at H; exact H
                      clear H
                      have H := H1
                      clear H1
                      by_cases c53 : t806 = 0
                      ·rw [if_pos c53] at H
                       have c53b0 : (t806 == 0) = true := beq_iff_eq.mpr c53
                       have c53b1 : (t806 != 0) = false := bne_eq_false_iff_eq.mpr c53
                       clear c53
                       replace H := Option.bind_eq_some_iff.mp H
                       obtain ⟨t809, A540, H⟩ := H
                       replace H : (if t804.toList = t809.toList then ((integer_Of.f (Int.tmod a0 a1)).bind fun t810 => (some (t805.toList == t810.toList))) else (some false)) = some r := H
                       have A54 := Aside0.mk A540
                       clear A540
                       by_cases c55 : t804.toList = t809.toList
                       ·rw [if_pos c55] at H
                        have c55b0 : (t804.toList == t809.toList) = true := beq_iff_eq.mpr c55
                        have c55b1 : (t804.toList != t809.toList) = false := bne_eq_false_iff_eq.mpr c55
                        clear c55
                        replace H := Option.bind_eq_some_iff.mp H
                        obtain ⟨t810, A560, H⟩ := H
                        replace H : (some (t805.toList == t810.toList)) = some r := H
                        have A56 := Aside0.mk A560
                        clear A560
                        obtain rfl := Option.some.inj H
                        go_wp2_with (first | (go_at_call 29; (with_reducible refine (integer_Of.calls (wrap64 (Int.tdiv a0 a1)) t809 _ ?side1 A54.out).mono ?_); (case side1 => exact GOK.below hG.out bel); rintro e w57 ⟨rfl, hb⟩; have n0_ := Aside0.mk (below_step bel hb); clear HB; have HB := n0_; clear n0_; (try clear hb); (try clear hb2); (try clear hk); (try clear hi)) | (go_at_call 29; (with_reducible refine (integer_Of.calls (Int.tmod a0 a1) t810 _ ?side1 A56.out).mono ?_); (case side1 => exact GOK.below hG.out bel); rintro e w58 ⟨rfl, hb⟩; have n0_ := Aside0.mk (below_step bel hb); clear HB; have HB := n0_; clear n0_; (try clear hb); (try clear hb2); (try clear hk); (try clear hi)))
                        repeat (go_quiet (first | (go_at_call 29; (with_reducible refine (integer_Of.calls (wrap64 (Int.tdiv a0 a1)) t809 _ ?side1 A54.out).mono ?_); (case side1 => exact GOK.below hG.out bel); rintro e w57 ⟨rfl, hb⟩; have n0_ := Aside0.mk (below_step bel hb); clear HB; have HB := n0_; clear n0_; (try clear hb); (try clear hb2); (try clear hk); (try clear hi)) | (go_at_call 29; (with_reducible refine (integer_Of.calls (Int.tmod a0 a1) t810 _ ?side1 A56.out).mono ?_); (case side1 => exact GOK.below hG.out bel); rintro e w58 ⟨rfl, hb⟩; have n0_ := Aside0.mk (below_step bel hb); clear HB; have HB := n0_; clear n0_; (try clear hb); (try clear hb2); (try clear hk); (try clear hi))); try go_wp2_with (first | (go_at_call 29; (with_reducible refine (integer_Of.calls (wrap64 (Int.tdiv a0 a1)) t809 _ ?side1 A54.out).mono ?_); (case side1 => exact GOK.below hG.out bel); rintro e w57 ⟨rfl, hb⟩; have n0_ := Aside0.mk (below_step bel hb); clear HB; have HB := n0_; clear n0_; (try clear hb); (try clear hb2); (try clear hk); (try clear hi)) | (go_at_call 29; (with_reducible refine (integer_Of.calls (Int.tmod a0 a1) t810 _ ?side1 A56.out).mono ?_); (case side1 => exact GOK.below hG.out bel); rintro e w58 ⟨rfl, hb⟩; have n0_ := Aside0.mk (below_step bel hb); clear HB; have HB := n0_; clear n0_; (try clear hb); (try clear hb2); (try clear hk); (try clear hi))))
                        go_ret
                        exact ⟨by first | rfl | (simp [errW_none, errW_some] <;> rfl) | (simp [*, errW_none, errW_some] <;> rfl), bel⟩
                       ·rw [if_neg c55] at H
                        have c55b0 : (t804.toList == t809.toList) = false := beq_eq_false_iff_ne.mpr c55
                        have c55b1 : (t804.toList != t809.toList) = true := bne_iff_ne.mpr c55
                        obtain rfl := Option.some.inj H
                        go_wp2_with (first | (go_at_call 29; (with_reducible refine (integer_Of.calls (wrap64 (Int.tdiv a0 a1)) t809 _ ?side1 A54.out).mono ?_); (case side1 => exact GOK.below hG.out bel); rintro e w59 ⟨rfl, hb⟩; have n0_ := Aside0.mk (below_step bel hb); clear HB; have HB := n0_; clear n0_; (try clear hb); (try clear hb2); (try clear hk); (try clear hi)))
                        repeat (go_quiet (first | (go_at_call 29; (with_reducible refine (integer_Of.calls (wrap64 (Int.tdiv a0 a1)) t809 _ ?side1 A54.out).mono ?_); (case side1 => exact GOK.below hG.out bel); rintro e w59 ⟨rfl, hb⟩; have n0_ := Aside0.mk (below_step bel hb); clear HB; have HB := n0_; clear n0_; (try clear hb); (try clear hb2); (try clear hk); (try clear hi))); try go_wp2_with (first | (go_at_call 29; (with_reducible refine (integer_Of.calls (wrap64 (Int.tdiv a0 a1)) t809 _ ?side1 A54.out).mono ?_); (case side1 => exact GOK.below hG.out bel); rintro e w59 ⟨rfl, hb⟩; have n0_ := Aside0.mk (below_step bel hb); clear HB; have HB := n0_; clear n0_; (try clear hb); (try clear hb2); (try clear hk); (try clear hi))))
                        go_ret
                        exact ⟨by first | rfl | (simp [errW_none, errW_some] <;> rfl) | (simp [*, errW_none, errW_some] <;> rfl), bel⟩
                      ·rw [if_neg c53] at H
                       have c53b0 : (t806 == 0) = false := beq_eq_false_iff_ne.mpr c53
                       have c53b1 : (t806 != 0) = true := bne_iff_ne.mpr c53
                       obtain rfl := Option.some.inj H
                       go_wp2
                       repeat (go_quiet (fail); try go_wp2)
                       go_ret
                       exact ⟨by first | rfl | (simp [errW_none, errW_some] <;> rfl) | (simp [*, errW_none, errW_some] <;> rfl), bel⟩
         ·rw [if_neg c20] at H
          have c20b0 : (t799 == x9_16) = false := beq_eq_false_iff_ne.mpr c20
          have c20b1 : (t799 != x9_16) = true := bne_iff_ne.mpr c20
          obtain rfl := Option.some.inj H
          go_wp2_with (first | (go_at_call 28; (with_reducible refine (integer_Cmp.calls kj16 t795 t796 t799 _ ?side1 A19.out).mono ?_); (case side1 => exact GOK.below hG.out bel); rintro e w60 ⟨rfl, hb⟩; have n0_ := Aside0.mk (below_step bel hb); clear HB; have HB := n0_; clear n0_; (try clear hb); (try clear hb2); (try clear hk); (try clear hi)))
          repeat (go_quiet (first | (go_at_call 28; (with_reducible refine (integer_Cmp.calls kj16 t795 t796 t799 _ ?side1 A19.out).mono ?_); (case side1 => exact GOK.below hG.out bel); rintro e w60 ⟨rfl, hb⟩; have n0_ := Aside0.mk (below_step bel hb); clear HB; have HB := n0_; clear n0_; (try clear hb); (try clear hb2); (try clear hk); (try clear hi))); try go_wp2_with (first | (go_at_call 28; (with_reducible refine (integer_Cmp.calls kj16 t795 t796 t799 _ ?side1 A19.out).mono ?_); (case side1 => exact GOK.below hG.out bel); rintro e w60 ⟨rfl, hb⟩; have n0_ := Aside0.mk (below_step bel hb); clear HB; have HB := n0_; clear n0_; (try clear hb); (try clear hb2); (try clear hk); (try clear hi))))
          go_ret
          exact ⟨by first | rfl | (simp [errW_none, errW_some] <;> rfl) | (simp [*, errW_none, errW_some] <;> rfl), bel⟩
 ·replace c4 := Bool.eq_false_iff.mpr c4
  subst c4
  have H1 : (some false) = some r := by rw [if_neg (show ¬ (false = true) by decide)] at H; exact H
  clear H
  have H := H1
  clear H1
  obtain rfl := Option.some.inj H
  go_enter Tryd.func9, Tryd.ntmps9
  go_wp2_with (first | (go_at_call 11; (with_reducible refine (cellarerlaw02_awake.calls k  false _ ?side1 A3.out).mono ?_); (case side1 => exact GOK.below hG.out bel); rintro e w61 ⟨rfl, hb⟩; have n0_ := Aside0.mk (below_step bel hb); clear HB; have HB := n0_; clear n0_; (try clear hb); (try clear hb2); (try clear hk); (try clear hi)))
  repeat (go_quiet (first | (go_at_call 11; (with_reducible refine (cellarerlaw02_awake.calls k  false _ ?side1 A3.out).mono ?_); (case side1 => exact GOK.below hG.out bel); rintro e w61 ⟨rfl, hb⟩; have n0_ := Aside0.mk (below_step bel hb); clear HB; have HB := n0_; clear n0_; (try clear hb); (try clear hb2); (try clear hk); (try clear hi))); try go_wp2_with (first | (go_at_call 11; (with_reducible refine (cellarerlaw02_awake.calls k  false _ ?side1 A3.out).mono ?_); (case side1 => exact GOK.below hG.out bel); rintro e w61 ⟨rfl, hb⟩; have n0_ := Aside0.mk (below_step bel hb); clear HB; have HB := n0_; clear n0_; (try clear hb); (try clear hb2); (try clear hk); (try clear hi))))
  go_ret
  exact ⟨by first | rfl | (simp [errW_none, errW_some] <;> rfl) | (simp [*, errW_none, errW_some] <;> rfl), bel⟩

theorem cellarerlaw02_IntegerSmalls.walk (P : cellarerlaw02_IntegerSmalls.Pure) (a0 : Int) (a1 : Int) (w : World) (hG : GOK w) (w0 : (Lit.int .i64 a0).wf = true) (w1 : (Lit.int .i64 a1).wf = true) :
  Calls Tryd.prog 9 #[.int .i64 a0, .int .i64 a1] w fun e w' => e = .returned (.bool true) ∧ Below w.heap.size w w' := by
 obtain ⟨k, h⟩ := P a0 a1 w0 w1
 refine (cellarerlaw02_IntegerSmalls.calls k a0 a1 true w hG h).mono ?_
 rintro e w' ⟨rfl, hd⟩
 exact ⟨rfl, hd⟩

end Go.Proofs.YtdnjlmoggnbknaaDoor.PInt
